/- Part 4 of the proof of Finds: what the program's functions compute, and that it is so. Conditions: as each theorem states. (Packed out of our texts: XRuleSpec, XRule, PF10, XSiteSpec, XSmall, PF12, PE0, XSite.) -/
import Derived.Test.YtcoaajkhfgakgaaDoorCFinds3
import Derived.Deep.RegionHeld3
import Derived.Deep.RegionWith
import Derived.Deep.RegionLaw
import Derived.BigRegion
import Derived.Deep.DrawnRows
section
namespace Go.Proofs.YtcoaajkhfgakgaaDoor.Pr
open Go.RowKit Go.Proofs.YtcoaajkhfgakgaaDoorW.PrintWords Go.Proofs.YtcoaajkhfgakgaaDoorW.PrintLast Go.Proofs.YtcoaajkhfgakgaaDoorW.PrintMore
set_option linter.unusedVariables false
set_option linter.unusedSimpArgs false
structure Sv where
  host : ByteArray
  origin : Int
  mn : Int
  mx : Int
  q : Bool
  kp : Bool
  hs : List ByteArray
def sOrigin : ByteArray := ⟨#[111, 114, 105, 103, 105, 110]⟩
def sTtl : ByteArray := ⟨#[116, 116, 108]⟩
def sKey : ByteArray := ⟨#[107, 101, 121]⟩
def sKeep : ByteArray := ⟨#[107, 101, 101, 112]⟩
def nameS (st : St) (seen : List ByteArray) : St :=
  takeS (if inB (nextS st) seen = true then failS (if nextS st = sOrigin ∨ nextS st = sTtl ∨ nextS st = sKey ∨ nextS st = sKeep then st else failS st 30) 31
    else (if nextS st = sOrigin ∨ nextS st = sTtl ∨ nextS st = sKey ∨ nextS st = sKeep then st else failS st 30))
def keepS (st : St) : St := takeS (if nextS st = ⟨#[111, 110]⟩ ∨ nextS st = ⟨#[111, 102, 102]⟩ then st else failS st 30)
def bodyF (k : Nat) (name : ByteArray) (st : St) (s : Sv) : Option (St × Sv) :=
  if name = sOrigin then some (numberS st 1 9, { s with origin := (numV (nextS st)).1 })
  else if name = sTtl then some (numberS (numberS st 0 2147483648) (numV (nextS st)).1 2147483648, { s with mn := (numV (nextS st)).1, mx := (numV (nextS (numberS st 0 2147483648))).1 })
  else if name = sKey then (keyF k (mustS st ⟨#[112, 97, 116, 104]⟩) false []).map fun r => (r.1, { s with q := r.2.1, hs := r.2.2 })
  else if name = sKeep then some (keepS st, { s with kp := decide (nextS st = ⟨#[111, 110]⟩) })
  else some (st, s)
def ruleF (k : Nat) (st : St) (s : Sv) (seen : List ByteArray) : Option (St × Sv × List ByteArray) :=
  (bodyF k (nextS st) (nameS st seen) s).map fun r => (mustS r.1 ⟨#[59]⟩, r.2, nextS st :: seen)
structure RI (w0 w1 W : World) (g gs bm : Nat) (st : St) (s : Sv) (seen : List ByteArray) (v : Value) : Prop where
  rd : IsRd w0 W g st
  bel : Below w0.heap.size w0 W
  keep : KeepBut w1 W g none
  site : W.heap[gs]? = some (.cells #[.string s.host, .int .i64 s.origin, .int .i64 s.mn, .int .i64 s.mx, .bool s.q, .bool s.kp, v] 29 (0, 0))
  own : W.ownsRow w1.heap.size 9 1 v s.hs.length (pw_strs s.hs)
  far : ∀ k, v.ownBlock = some k → k ≠ gs ∧ k ≠ bm
  set : IsSet W bm seen
  small : ∀ x ∈ st.l, x.s.size ≤ 274877906944
  len : s.hs.length ≤ 4
structure Lie (w0 w1 : World) (g gs bm : Nat) : Prop where
  hg : g < w1.heap.size
  hgs : w1.heap.size ≤ gs
  hbm : w1.heap.size ≤ bm
  hne : gs ≠ bm
  hw : w0.heap.size ≤ w1.heap.size
section
variable {w0 w1 W W' : World} {g gs bm : Nat} {st st' : St} {s : Sv} {seen : List ByteArray} {v : Value}
theorem RI.reader (h : RI w0 w1 W g gs bm st s seen v) (L : Lie w0 w1 g gs bm) (h1 : IsRd w0 W' g st') (h2 : Below w0.heap.size w0 W') (h3 : KeepBut W W' g none) (h4 : ∀ x ∈ st'.l, x ∈ st.l) : RI w0 w1 W' g gs bm st' s seen v := by
  have l1 := L.hg
  have l2 := L.hgs
  have l3 := L.hbm
  refine ⟨h1, h2, keep_then h.keep h3, (h3.2 gs (blk_lt h.site) (by omega) (by simp)).trans h.site, h3.own h.own (fun e => by have := own_base h.own g e; omega) (by rcases hv : v.ownBlock with _ | k <;> simp), h.far,
    h.set.block (h3.2 bm h.set.lt (by omega) (by simp)), fun x hx => h.small x (h4 x hx), h.len⟩
theorem RI.below (h : RI w0 w1 W g gs bm st s seen v) (hb : Below W.heap.size W W') : RI w0 w1 W' g gs bm st s seen v :=
  ⟨h.rd.below hb, below_then h.bel h.bel.size hb, keep_then h.keep (KeepBut.of_below hb g none), (hb.block gs (blk_lt h.site)).trans h.site, pw_own_below h.own hb, h.far, h.set.block (hb.block bm h.set.lt), h.small, h.len⟩
theorem RI.put (h : RI w0 w1 W g gs bm st s seen v) (L : Lie w0 w1 g gs bm) (j : Nat) (u : Value) (s' : Sv) (hs : s'.hs = s.hs)
    (hc : (#[Value.string s.host, .int .i64 s.origin, .int .i64 s.mn, .int .i64 s.mx, .bool s.q, .bool s.kp, v]).setIfInBounds j u = #[Value.string s'.host, .int .i64 s'.origin, .int .i64 s'.mn, .int .i64 s'.mx, .bool s'.q, .bool s'.kp, v]) :
    RI w0 w1 (W.setCell ⟨gs, j, none⟩ u) g gs bm st s' seen v := by
  have l1 := L.hg
  have l2 := L.hgs
  have l3 := L.hbm
  have l4 := L.hne
  have l5 := L.hw
  refine ⟨?_, below_set h.bel (by omega), ?_, blk_put h.site j _ hc, ?_, h.far, h.set.block (Below.heap_setCell _ _ _ bm (Ne.symm l4)), h.small, by rw [hs]; exact h.len⟩
  · obtain ⟨A, c, h1, h2⟩ := h.rd
    exact ⟨A, c, (Below.heap_setCell W _ _ g (by simp only; omega)).trans h1, h2⟩
  · exact ⟨by have := h.keep.1; simpa [World.setCell] using this, fun i hi hn hr => (Below.heap_setCell W _ _ i (by simp only; omega)).trans (h.keep.2 i hi hn hr)⟩
  · rw [hs]
    exact own_setCell h.own (fun e => (h.far gs e.symm).1 rfl) u
theorem RI.named (h : RI w0 w1 W g gs bm st s seen v) (L : Lie w0 w1 g gs bm) (x : ByteArray) (hg : W.grownBy W' (some bm)) (hs : IsSet W' bm (x :: seen)) : RI w0 w1 W' g gs bm st s (x :: seen) v := by
  have l1 := L.hg
  have l2 := L.hgs
  have l3 := L.hbm
  have l4 := L.hne
  have l5 := L.hw
  have hb : ∀ i, i < W.heap.size → i ≠ bm → W'.heap[i]? = W.heap[i]? := fun i hi hn => hg.block i hi (fun e => hn (by injection e))
  refine ⟨?_, h.bel.grown hg h.bel.size (fun k hk => by injection hk with hk; omega), ?_, (hb gs (blk_lt h.site) l4).trans h.site, own_other h.own hg (.inr (fun e => (h.far bm e).2 rfl)), h.far, hs, h.small, h.len⟩
  · obtain ⟨A, c, h1, h2⟩ := h.rd
    exact ⟨A, c, (hb g (blk_lt h1) (by omega)).trans h1, h2⟩
  · exact ⟨Nat.le_trans h.keep.1 hg.size, fun i hi hn hr => (hb i (by have := h.keep.1; omega) (by omega)).trans (h.keep.2 i hi hn hr)⟩
theorem RI.key {q' : Bool} {hs' : List ByteArray} {v' : Value} (h : RI w0 w1 W g gs bm st s seen v) (L : Lie w0 w1 g gs bm) (k : KI w0 W W' g gs s.host s.origin s.mn s.mx s.kp st' q' hs' v') : RI w0 w1 W' g gs bm st' { s with q := q', hs := hs' } seen v' := by
  have l1 := L.hg
  have l2 := L.hgs
  have l3 := L.hbm
  have l4 := L.hne
  have l6 := h.keep.1
  refine ⟨k.rd, k.bel, ⟨Nat.le_trans h.keep.1 k.keep.1, fun i hi hn hr => (k.keep.2 i (by omega) hn (by simp; omega)).trans (h.keep.2 i hi hn hr)⟩, k.site, own_weaken k.own l6, fun b hb => ?_, h.set.block (k.keep.2 bm h.set.lt (by omega) (by simp; omega)), k.small, k.four⟩
  have h1 := own_base k.own b hb
  have h2 := blk_lt h.site
  have h3 := h.set.lt
  omega
end
end Go.Proofs.YtcoaajkhfgakgaaDoor.Pr
end

section
namespace Go.Proofs.YtcoaajkhfgakgaaDoor.Pr
open Go.RowKit Go.Proofs.YtcoaajkhfgakgaaDoorW.PrintWords Go.Proofs.YtcoaajkhfgakgaaDoorW.PrintLast Go.Proofs.YtcoaajkhfgakgaaDoorW.PrintMore
set_option linter.unusedVariables false
set_option linter.unusedSimpArgs false
theorem ne_facts : (sOrigin = sTtl) = False ∧ (sOrigin = sKey) = False ∧ (sOrigin = sKeep) = False ∧ (sTtl = sOrigin) = False ∧ (sTtl = sKey) = False ∧ (sTtl = sKeep) = False ∧ (sKey = sOrigin) = False ∧ (sKey = sTtl) = False ∧ (sKey = sKeep) = False ∧ (sKeep = sOrigin) = False ∧ (sKeep = sTtl) = False ∧ (sKeep = sKey) = False := by
  refine ⟨?_, ?_, ?_, ?_, ?_, ?_, ?_, ?_, ?_, ?_, ?_, ?_⟩ <;> exact eq_false (by decide)
set_option maxRecDepth 100000 in
set_option maxHeartbeats 16000000 in
theorem reader_rule_calls (k : Nat) (w0 w1 w : World) (g gs bm : Nat) (st : St) (s : Sv) (seen : List ByteArray) (v : Value) (st' : St) (s' : Sv) (seen' : List ByteArray)
    (h : RI w0 w1 w g gs bm st s seen v) (L : Lie w0 w1 g gs bm) (hG : GL w0) (hn : seen.length < 274877906944) (hf : ruleF k st s seen = some (st', s', seen')) :
    Calls Tryd.prog 35 #[.pointer (some ⟨g, 0, none⟩), .pointer (some ⟨gs, 0, none⟩), .map (some bm)] w fun e w' => e = .returned (.tuple #[]) ∧ ∃ v', RI w0 w1 w' g gs bm st' s' seen' v' := by
  have hgg : gs ≠ g := by have := L.hg; have := L.hgs; omega
  have h00 : w0.heap.size ≤ gs := by have := L.hw; have := L.hgs; omega
  have hu3 := Tryd.underlying29
  have hx : (nextS st).size ≤ 274877906944 := nextS_small h.small
  have HX := Aside0.mk hx
  have HN := Aside0.mk (reader_next_calls w0 w g st h.rd h.bel)
  obtain ⟨sh, so, sm, sx, sq, sk, sl⟩ := s
  have HI := Aside0.mk h
  have HGL := Aside0.mk hG
  clear h hG hx
  -- what stands behind the name
  unfold ruleF at hf
  cases hb : bodyF k (nextS st) (nameS st seen) ⟨sh, so, sm, sx, sq, sk, sl⟩ with
  | none => rw [hb] at hf; simp at hf
  | some r =>
  rw [hb] at hf
  obtain ⟨str, sr⟩ := r
  simp only [Option.map_some, Option.some.injEq, Prod.mk.injEq] at hf
  obtain ⟨rfl, rfl, rfl⟩ := hf
  have HSE := Aside0.mk (rfl : nameS st seen = nameS st seen)
  unfold nameS at hb
  by_cases t1 : nextS st = sOrigin
  case pos =>
    rw [t1] at hb HN ⊢
    simp only [bodyF, ne_facts, true_or, or_true, if_true, if_false] at hb
    unfold sOrigin at *
    have hlk := HI.out.set.look ⟨#[111, 114, 105, 103, 105, 110]⟩ (by decide)
    generalize inB ⟨#[111, 114, 105, 103, 105, 110]⟩ seen = bs at *
    cases bs with
    | true =>
      simp only [if_true] at hb
      go_enter Tryd.func35, Tryd.ntmps35
      go_wp2_with fail
      refine HN.out.mono ?_
      rintro e w2 ⟨rfl, rfl⟩
      go_wp2_with fail
      refine (reader_fail_calls w0 _ g _ 31 HI.out.rd HI.out.bel).mono ?_
      rintro e wf1 ⟨rfl, h1, h2, h3⟩
      have HI1 := Aside0.mk (HI.out.reader L h1 h2 h3 (fun x hx => by rwa [failS_l] at hx))
      clear h1 h2 h3
      obtain ⟨wm, hmu, hset, hgrow⟩ := HI1.out.set.put ⟨#[111, 114, 105, 103, 105, 110]⟩ (by decide) hn
      have HM := Aside0.mk (HI1.out.named L _ hgrow hset)
      clear hset hgrow hlk
      go_wp2_with fail
      refine (reader_take_calls w0 _ g _ HM.out.rd HM.out.bel).mono ?_
      rintro e wt ⟨rfl, h1, h2, h3⟩
      have HT1 := Aside0.mk (HM.out.reader L h1 h2 h3 (takeS_mem _))
      clear h1 h2 h3
      clear hmu
      generalize takeS _ = stn at hb HT1
      simp only [Option.some.injEq, Prod.mk.injEq] at hb
      obtain ⟨rfl, rfl⟩ := hb
      have HSM := Aside0.mk (nextS_small HT1.out.small)
      have HGn := Aside0.mk (HGL.out.below HT1.out.bel)
      go_wp2_with fail
      refine (reader_number_calls w0 _ g _ 1 9 HT1.out.rd HT1.out.bel HGn.out (by have := HSM.out; omega)).mono ?_
      rintro e wb ⟨rfl, h1, h2, h3⟩
      have HB0a := Aside0.mk (HT1.out.reader L h1 h2 h3 (numberS_mem _ _ _))
      have cc : wb.cell? ⟨gs, 1, none⟩ = some (.int .i64 so) := (blk_cell HB0a.out.site 1).trans rfl
      have zz : wb.frozen? ⟨gs, 1, none⟩ = false := blk_frozen HB0a.out.site 1
      clear h1 h2 h3 HSM HGn
      have HB1 := Aside0.mk (HB0a.out.put L 1 (.int .i64 (numV (nextS stn)).1) ⟨sh, (numV (nextS stn)).1, sm, sx, sq, sk, sl⟩ rfl rfl)
      go_wp2_with fail
      refine (reader_must_calls w0 _ g _ ⟨#[59]⟩ HB1.out.rd HB1.out.bel).mono ?_
      rintro e wz ⟨rfl, h1, h2, h3⟩
      have HZ := Aside0.mk (HB1.out.reader L h1 h2 h3 (mustS_mem _ _))
      clear h1 h2 h3
      go_wp2
      go_end0
      exact ⟨rfl, _, HZ.out⟩
    | false =>
      simp only [Bool.false_eq_true, if_false] at hb
      obtain ⟨wm, hmu, hset, hgrow⟩ := HI.out.set.put ⟨#[111, 114, 105, 103, 105, 110]⟩ (by decide) hn
      have HM := Aside0.mk (HI.out.named L _ hgrow hset)
      clear hset hgrow
      go_enter Tryd.func35, Tryd.ntmps35
      go_wp2_with fail
      refine HN.out.mono ?_
      rintro e w2 ⟨rfl, rfl⟩
      go_wp2_with fail
      refine (reader_take_calls w0 _ g _ HM.out.rd HM.out.bel).mono ?_
      rintro e wt ⟨rfl, h1, h2, h3⟩
      have HT1 := Aside0.mk (HM.out.reader L h1 h2 h3 (takeS_mem _))
      clear h1 h2 h3
      clear hmu
      generalize takeS _ = stn at hb HT1
      simp only [Option.some.injEq, Prod.mk.injEq] at hb
      obtain ⟨rfl, rfl⟩ := hb
      have HSM := Aside0.mk (nextS_small HT1.out.small)
      have HGn := Aside0.mk (HGL.out.below HT1.out.bel)
      go_wp2_with fail
      refine (reader_number_calls w0 _ g _ 1 9 HT1.out.rd HT1.out.bel HGn.out (by have := HSM.out; omega)).mono ?_
      rintro e wb ⟨rfl, h1, h2, h3⟩
      have HB0a := Aside0.mk (HT1.out.reader L h1 h2 h3 (numberS_mem _ _ _))
      have cc : wb.cell? ⟨gs, 1, none⟩ = some (.int .i64 so) := (blk_cell HB0a.out.site 1).trans rfl
      have zz : wb.frozen? ⟨gs, 1, none⟩ = false := blk_frozen HB0a.out.site 1
      clear h1 h2 h3 HSM HGn
      have HB1 := Aside0.mk (HB0a.out.put L 1 (.int .i64 (numV (nextS stn)).1) ⟨sh, (numV (nextS stn)).1, sm, sx, sq, sk, sl⟩ rfl rfl)
      go_wp2_with fail
      refine (reader_must_calls w0 _ g _ ⟨#[59]⟩ HB1.out.rd HB1.out.bel).mono ?_
      rintro e wz ⟨rfl, h1, h2, h3⟩
      have HZ := Aside0.mk (HB1.out.reader L h1 h2 h3 (mustS_mem _ _))
      clear h1 h2 h3
      go_wp2
      go_end0
      exact ⟨rfl, _, HZ.out⟩
  case neg =>
  by_cases t2 : nextS st = sTtl
  case pos =>
    rw [t2] at hb HN ⊢
    simp only [bodyF, ne_facts, true_or, or_true, if_true, if_false] at hb
    unfold sTtl at *
    have hlk := HI.out.set.look ⟨#[116, 116, 108]⟩ (by decide)
    generalize inB ⟨#[116, 116, 108]⟩ seen = bs at *
    cases bs with
    | true =>
      simp only [if_true] at hb
      go_enter Tryd.func35, Tryd.ntmps35
      go_wp2_with fail
      refine HN.out.mono ?_
      rintro e w2 ⟨rfl, rfl⟩
      go_wp2_with fail
      refine (reader_fail_calls w0 _ g _ 31 HI.out.rd HI.out.bel).mono ?_
      rintro e wf1 ⟨rfl, h1, h2, h3⟩
      have HI1 := Aside0.mk (HI.out.reader L h1 h2 h3 (fun x hx => by rwa [failS_l] at hx))
      clear h1 h2 h3
      obtain ⟨wm, hmu, hset, hgrow⟩ := HI1.out.set.put ⟨#[116, 116, 108]⟩ (by decide) hn
      have HM := Aside0.mk (HI1.out.named L _ hgrow hset)
      clear hset hgrow hlk
      go_wp2_with fail
      refine (reader_take_calls w0 _ g _ HM.out.rd HM.out.bel).mono ?_
      rintro e wt ⟨rfl, h1, h2, h3⟩
      have HT1 := Aside0.mk (HM.out.reader L h1 h2 h3 (takeS_mem _))
      clear h1 h2 h3
      clear hmu
      generalize takeS _ = stn at hb HT1
      simp only [Option.some.injEq, Prod.mk.injEq] at hb
      obtain ⟨rfl, rfl⟩ := hb
      have HSM := Aside0.mk (nextS_small HT1.out.small)
      have HGn := Aside0.mk (HGL.out.below HT1.out.bel)
      go_wp2_with fail
      refine (reader_number_calls w0 _ g _ 0 2147483648 HT1.out.rd HT1.out.bel HGn.out (by have := HSM.out; omega)).mono ?_
      rintro e wb ⟨rfl, h1, h2, h3⟩
      have HB0a := Aside0.mk (HT1.out.reader L h1 h2 h3 (numberS_mem _ _ _))
      have cc : wb.cell? ⟨gs, 2, none⟩ = some (.int .i64 sm) := (blk_cell HB0a.out.site 2).trans rfl
      have zz : wb.frozen? ⟨gs, 2, none⟩ = false := blk_frozen HB0a.out.site 2
      clear h1 h2 h3 HSM HGn
      have HB1 := Aside0.mk (HB0a.out.put L 2 (.int .i64 (numV (nextS stn)).1) ⟨sh, so, (numV (nextS stn)).1, sx, sq, sk, sl⟩ rfl rfl)
      have c2 : (wb.setCell ⟨gs, 2, none⟩ (.int .i64 (numV (nextS stn)).1)).cell? ⟨gs, 2, none⟩ = some (.int .i64 (numV (nextS stn)).1) := (blk_cell HB1.out.site 2).trans rfl
      have HSM := Aside0.mk (nextS_small HB1.out.small)
      have HGn := Aside0.mk (HGL.out.below HB1.out.bel)
      go_wp2_with fail
      refine (reader_number_calls w0 _ g _ _ 2147483648 HB1.out.rd HB1.out.bel HGn.out (by have := HSM.out; omega)).mono ?_
      rintro e wb2 ⟨rfl, h1, h2, h3⟩
      have HB2 := Aside0.mk (HB1.out.reader L h1 h2 h3 (numberS_mem _ _ _))
      have cc2 : wb2.cell? ⟨gs, 3, none⟩ = some (.int .i64 sx) := (blk_cell HB2.out.site 3).trans rfl
      have zz2 : wb2.frozen? ⟨gs, 3, none⟩ = false := blk_frozen HB2.out.site 3
      clear h1 h2 h3 HSM HGn cc zz c2
      have HB3 := Aside0.mk (HB2.out.put L 3 (.int .i64 (numV (nextS (numberS stn 0 2147483648))).1) ⟨sh, so, (numV (nextS stn)).1, (numV (nextS (numberS stn 0 2147483648))).1, sq, sk, sl⟩ rfl rfl)
      go_wp2_with fail
      refine (reader_must_calls w0 _ g _ ⟨#[59]⟩ HB3.out.rd HB3.out.bel).mono ?_
      rintro e wz ⟨rfl, h1, h2, h3⟩
      have HZ := Aside0.mk (HB3.out.reader L h1 h2 h3 (mustS_mem _ _))
      clear h1 h2 h3
      go_wp2
      go_end0
      exact ⟨rfl, _, HZ.out⟩
    | false =>
      simp only [Bool.false_eq_true, if_false] at hb
      obtain ⟨wm, hmu, hset, hgrow⟩ := HI.out.set.put ⟨#[116, 116, 108]⟩ (by decide) hn
      have HM := Aside0.mk (HI.out.named L _ hgrow hset)
      clear hset hgrow
      go_enter Tryd.func35, Tryd.ntmps35
      go_wp2_with fail
      refine HN.out.mono ?_
      rintro e w2 ⟨rfl, rfl⟩
      go_wp2_with fail
      refine (reader_take_calls w0 _ g _ HM.out.rd HM.out.bel).mono ?_
      rintro e wt ⟨rfl, h1, h2, h3⟩
      have HT1 := Aside0.mk (HM.out.reader L h1 h2 h3 (takeS_mem _))
      clear h1 h2 h3
      clear hmu
      generalize takeS _ = stn at hb HT1
      simp only [Option.some.injEq, Prod.mk.injEq] at hb
      obtain ⟨rfl, rfl⟩ := hb
      have HSM := Aside0.mk (nextS_small HT1.out.small)
      have HGn := Aside0.mk (HGL.out.below HT1.out.bel)
      go_wp2_with fail
      refine (reader_number_calls w0 _ g _ 0 2147483648 HT1.out.rd HT1.out.bel HGn.out (by have := HSM.out; omega)).mono ?_
      rintro e wb ⟨rfl, h1, h2, h3⟩
      have HB0a := Aside0.mk (HT1.out.reader L h1 h2 h3 (numberS_mem _ _ _))
      have cc : wb.cell? ⟨gs, 2, none⟩ = some (.int .i64 sm) := (blk_cell HB0a.out.site 2).trans rfl
      have zz : wb.frozen? ⟨gs, 2, none⟩ = false := blk_frozen HB0a.out.site 2
      clear h1 h2 h3 HSM HGn
      have HB1 := Aside0.mk (HB0a.out.put L 2 (.int .i64 (numV (nextS stn)).1) ⟨sh, so, (numV (nextS stn)).1, sx, sq, sk, sl⟩ rfl rfl)
      have c2 : (wb.setCell ⟨gs, 2, none⟩ (.int .i64 (numV (nextS stn)).1)).cell? ⟨gs, 2, none⟩ = some (.int .i64 (numV (nextS stn)).1) := (blk_cell HB1.out.site 2).trans rfl
      have HSM := Aside0.mk (nextS_small HB1.out.small)
      have HGn := Aside0.mk (HGL.out.below HB1.out.bel)
      go_wp2_with fail
      refine (reader_number_calls w0 _ g _ _ 2147483648 HB1.out.rd HB1.out.bel HGn.out (by have := HSM.out; omega)).mono ?_
      rintro e wb2 ⟨rfl, h1, h2, h3⟩
      have HB2 := Aside0.mk (HB1.out.reader L h1 h2 h3 (numberS_mem _ _ _))
      have cc2 : wb2.cell? ⟨gs, 3, none⟩ = some (.int .i64 sx) := (blk_cell HB2.out.site 3).trans rfl
      have zz2 : wb2.frozen? ⟨gs, 3, none⟩ = false := blk_frozen HB2.out.site 3
      clear h1 h2 h3 HSM HGn cc zz c2
      have HB3 := Aside0.mk (HB2.out.put L 3 (.int .i64 (numV (nextS (numberS stn 0 2147483648))).1) ⟨sh, so, (numV (nextS stn)).1, (numV (nextS (numberS stn 0 2147483648))).1, sq, sk, sl⟩ rfl rfl)
      go_wp2_with fail
      refine (reader_must_calls w0 _ g _ ⟨#[59]⟩ HB3.out.rd HB3.out.bel).mono ?_
      rintro e wz ⟨rfl, h1, h2, h3⟩
      have HZ := Aside0.mk (HB3.out.reader L h1 h2 h3 (mustS_mem _ _))
      clear h1 h2 h3
      go_wp2
      go_end0
      exact ⟨rfl, _, HZ.out⟩
  case neg =>
  by_cases t3 : nextS st = sKey
  case pos =>
    rw [t3] at hb HN ⊢
    simp only [bodyF, ne_facts, true_or, or_true, if_true, if_false] at hb
    unfold sKey at *
    have hlk := HI.out.set.look ⟨#[107, 101, 121]⟩ (by decide)
    generalize inB ⟨#[107, 101, 121]⟩ seen = bs at *
    cases bs with
    | true =>
      simp only [if_true] at hb
      go_enter Tryd.func35, Tryd.ntmps35
      go_wp2_with fail
      refine HN.out.mono ?_
      rintro e w2 ⟨rfl, rfl⟩
      go_wp2_with fail
      refine (reader_fail_calls w0 _ g _ 31 HI.out.rd HI.out.bel).mono ?_
      rintro e wf1 ⟨rfl, h1, h2, h3⟩
      have HI1 := Aside0.mk (HI.out.reader L h1 h2 h3 (fun x hx => by rwa [failS_l] at hx))
      clear h1 h2 h3
      obtain ⟨wm, hmu, hset, hgrow⟩ := HI1.out.set.put ⟨#[107, 101, 121]⟩ (by decide) hn
      have HM := Aside0.mk (HI1.out.named L _ hgrow hset)
      clear hset hgrow hlk
      go_wp2_with fail
      refine (reader_take_calls w0 _ g _ HM.out.rd HM.out.bel).mono ?_
      rintro e wt ⟨rfl, h1, h2, h3⟩
      have HT1 := Aside0.mk (HM.out.reader L h1 h2 h3 (takeS_mem _))
      clear h1 h2 h3
      clear hmu
      generalize takeS _ = stn at hb HT1
      cases hk : keyF k (mustS stn ⟨#[112, 97, 116, 104]⟩) false [] with
      | none => rw [hk] at hb; simp at hb
      | some kr =>
      rw [hk] at hb
      obtain ⟨k1, kq, khs⟩ := kr
      simp only [Option.map_some, Option.some.injEq, Prod.mk.injEq] at hb
      obtain ⟨rfl, rfl⟩ := hb
      have HKF := Aside0.mk hk
      clear hk
      go_wp2_with fail
      refine (reader_key_calls k w0 _ g gs sh so sm sx sq sk v stn _ kq khs HT1.out.rd HT1.out.bel HT1.out.site hgg h00 HT1.out.small HKF.out).mono ?_
      rintro e wb ⟨rfl, vk, hki⟩
      have HB1 := Aside0.mk (HT1.out.key L hki)
      clear hki
      go_wp2_with fail
      refine (reader_must_calls w0 _ g _ ⟨#[59]⟩ HB1.out.rd HB1.out.bel).mono ?_
      rintro e wz ⟨rfl, h1, h2, h3⟩
      have HZ := Aside0.mk (HB1.out.reader L h1 h2 h3 (mustS_mem _ _))
      clear h1 h2 h3
      go_wp2
      go_end0
      exact ⟨rfl, _, HZ.out⟩
    | false =>
      simp only [Bool.false_eq_true, if_false] at hb
      obtain ⟨wm, hmu, hset, hgrow⟩ := HI.out.set.put ⟨#[107, 101, 121]⟩ (by decide) hn
      have HM := Aside0.mk (HI.out.named L _ hgrow hset)
      clear hset hgrow
      go_enter Tryd.func35, Tryd.ntmps35
      go_wp2_with fail
      refine HN.out.mono ?_
      rintro e w2 ⟨rfl, rfl⟩
      go_wp2_with fail
      refine (reader_take_calls w0 _ g _ HM.out.rd HM.out.bel).mono ?_
      rintro e wt ⟨rfl, h1, h2, h3⟩
      have HT1 := Aside0.mk (HM.out.reader L h1 h2 h3 (takeS_mem _))
      clear h1 h2 h3
      clear hmu
      generalize takeS _ = stn at hb HT1
      cases hk : keyF k (mustS stn ⟨#[112, 97, 116, 104]⟩) false [] with
      | none => rw [hk] at hb; simp at hb
      | some kr =>
      rw [hk] at hb
      obtain ⟨k1, kq, khs⟩ := kr
      simp only [Option.map_some, Option.some.injEq, Prod.mk.injEq] at hb
      obtain ⟨rfl, rfl⟩ := hb
      have HKF := Aside0.mk hk
      clear hk
      go_wp2_with fail
      refine (reader_key_calls k w0 _ g gs sh so sm sx sq sk v stn _ kq khs HT1.out.rd HT1.out.bel HT1.out.site hgg h00 HT1.out.small HKF.out).mono ?_
      rintro e wb ⟨rfl, vk, hki⟩
      have HB1 := Aside0.mk (HT1.out.key L hki)
      clear hki
      go_wp2_with fail
      refine (reader_must_calls w0 _ g _ ⟨#[59]⟩ HB1.out.rd HB1.out.bel).mono ?_
      rintro e wz ⟨rfl, h1, h2, h3⟩
      have HZ := Aside0.mk (HB1.out.reader L h1 h2 h3 (mustS_mem _ _))
      clear h1 h2 h3
      go_wp2
      go_end0
      exact ⟨rfl, _, HZ.out⟩
  case neg =>
  by_cases t4 : nextS st = sKeep
  case pos =>
    rw [t4] at hb HN ⊢
    simp only [bodyF, ne_facts, true_or, or_true, if_true, if_false] at hb
    unfold sKeep at *
    have hlk := HI.out.set.look ⟨#[107, 101, 101, 112]⟩ (by decide)
    generalize inB ⟨#[107, 101, 101, 112]⟩ seen = bs at *
    cases bs with
    | true =>
      simp only [if_true] at hb
      go_enter Tryd.func35, Tryd.ntmps35
      go_wp2_with fail
      refine HN.out.mono ?_
      rintro e w2 ⟨rfl, rfl⟩
      go_wp2_with fail
      refine (reader_fail_calls w0 _ g _ 31 HI.out.rd HI.out.bel).mono ?_
      rintro e wf1 ⟨rfl, h1, h2, h3⟩
      have HI1 := Aside0.mk (HI.out.reader L h1 h2 h3 (fun x hx => by rwa [failS_l] at hx))
      clear h1 h2 h3
      obtain ⟨wm, hmu, hset, hgrow⟩ := HI1.out.set.put ⟨#[107, 101, 101, 112]⟩ (by decide) hn
      have HM := Aside0.mk (HI1.out.named L _ hgrow hset)
      clear hset hgrow hlk
      go_wp2_with fail
      refine (reader_take_calls w0 _ g _ HM.out.rd HM.out.bel).mono ?_
      rintro e wt ⟨rfl, h1, h2, h3⟩
      have HT1 := Aside0.mk (HM.out.reader L h1 h2 h3 (takeS_mem _))
      clear h1 h2 h3
      clear hmu
      generalize takeS _ = stn at hb HT1
      simp only [Option.some.injEq, Prod.mk.injEq] at hb
      obtain ⟨rfl, rfl⟩ := hb
      have HNk := Aside0.mk (reader_next_calls w0 _ g stn HT1.out.rd HT1.out.bel)
      have cc := ((blk_cell HT1.out.site 5).trans rfl : _ = some (Value.bool sk))
      have zz := (blk_frozen HT1.out.site 5 : _ = false)
      have HE : Aside0 (keepS stn = takeS (if nextS stn = ⟨#[111, 110]⟩ ∨ nextS stn = ⟨#[111, 102, 102]⟩ then stn else failS stn 30)) := ⟨rfl⟩
      have HD : Aside0 (decide (nextS stn = ⟨#[111, 110]⟩) = decide (nextS stn = ⟨#[111, 110]⟩)) := ⟨rfl⟩
      by_cases y1 : nextS stn = ⟨#[111, 110]⟩
      case pos =>
        have HB1 := Aside0.mk (HT1.out.put L 5 (.bool true) ⟨sh, so, sm, sx, sq, true, sl⟩ rfl rfl)
        have c5 := ((blk_cell HB1.out.site 5).trans rfl : _ = some (Value.bool true))
        rw [y1] at HNk
        have HE2 : Aside0 (keepS stn = takeS stn) := ⟨by rw [HE.out, if_pos (.inl y1)]⟩
        have HD2 : Aside0 (decide (nextS stn = ⟨#[111, 110]⟩) = true) := ⟨decide_eq_true y1⟩
        clear y1 HE HD
        go_wp2_with fail
        refine HNk.out.mono ?_
        rintro e w2 ⟨rfl, rfl⟩
        go_wp2_with fail
        refine (reader_take_calls w0 _ g _ HB1.out.rd HB1.out.bel).mono ?_
        rintro e wt2 ⟨rfl, h1, h2, h3⟩
        have HB2 := Aside0.mk (HB1.out.reader L h1 h2 h3 (takeS_mem _))
        clear h1 h2 h3
        go_wp2_with fail
        refine (reader_must_calls w0 _ g _ ⟨#[59]⟩ HB2.out.rd HB2.out.bel).mono ?_
        rintro e wz ⟨rfl, h1, h2, h3⟩
        have HZ := Aside0.mk (HB2.out.reader L h1 h2 h3 (mustS_mem _ _))
        clear h1 h2 h3
        go_wp2
        go_end0
        exact ⟨rfl, _, by rw [HE2.out, HD2.out]; exact HZ.out⟩
      case neg =>
      have HB1 := Aside0.mk (HT1.out.put L 5 (.bool false) ⟨sh, so, sm, sx, sq, false, sl⟩ rfl rfl)
      have c5 := ((blk_cell HB1.out.site 5).trans rfl : _ = some (Value.bool false))
      have HNk2 := Aside0.mk (reader_next_calls w0 _ g stn HB1.out.rd HB1.out.bel)
      have qy := lit_ne y1
      by_cases y2 : nextS stn = ⟨#[111, 102, 102]⟩
      case pos =>
        rw [y2] at HNk HNk2
        have HE2 : Aside0 (keepS stn = takeS stn) := ⟨by rw [HE.out, if_pos (.inr y2)]⟩
        have HD2 : Aside0 (decide (nextS stn = ⟨#[111, 110]⟩) = false) := ⟨decide_eq_false y1⟩
        clear y1 y2 qy HE HD
        go_wp2_with fail
        refine HNk.out.mono ?_
        rintro e w2 ⟨rfl, rfl⟩
        go_wp2_with fail
        refine HNk2.out.mono ?_
        rintro e w2 ⟨rfl, rfl⟩
        go_wp2_with fail
        refine (reader_take_calls w0 _ g _ HB1.out.rd HB1.out.bel).mono ?_
        rintro e wt2 ⟨rfl, h1, h2, h3⟩
        have HB2 := Aside0.mk (HB1.out.reader L h1 h2 h3 (takeS_mem _))
        clear h1 h2 h3
        go_wp2_with fail
        refine (reader_must_calls w0 _ g _ ⟨#[59]⟩ HB2.out.rd HB2.out.bel).mono ?_
        rintro e wz ⟨rfl, h1, h2, h3⟩
        have HZ := Aside0.mk (HB2.out.reader L h1 h2 h3 (mustS_mem _ _))
        clear h1 h2 h3
        go_wp2
        go_end0
        exact ⟨rfl, _, by rw [HE2.out, HD2.out]; exact HZ.out⟩
      case neg =>
      have qy2 := lit_ne y2
      have HE2 : Aside0 (keepS stn = takeS (failS stn 30)) := ⟨by rw [HE.out, if_neg (fun h => h.elim y1 y2)]⟩
      have HD2 : Aside0 (decide (nextS stn = ⟨#[111, 110]⟩) = false) := ⟨decide_eq_false y1⟩
      clear y1 y2 HE HD
      go_wp2_with fail
      refine HNk.out.mono ?_
      rintro e w2 ⟨rfl, rfl⟩
      go_wp2_with fail
      refine HNk2.out.mono ?_
      rintro e w2 ⟨rfl, rfl⟩
      go_wp2_with fail
      refine (reader_fail_calls w0 _ g _ 30 HB1.out.rd HB1.out.bel).mono ?_
      rintro e wf2 ⟨rfl, h1, h2, h3⟩
      have HB2 := Aside0.mk (HB1.out.reader L h1 h2 h3 (fun x hx => by rwa [failS_l] at hx))
      clear h1 h2 h3
      go_wp2_with fail
      refine (reader_take_calls w0 _ g _ HB2.out.rd HB2.out.bel).mono ?_
      rintro e wt2 ⟨rfl, h1, h2, h3⟩
      have HB3 := Aside0.mk (HB2.out.reader L h1 h2 h3 (takeS_mem _))
      clear h1 h2 h3
      go_wp2_with fail
      refine (reader_must_calls w0 _ g _ ⟨#[59]⟩ HB3.out.rd HB3.out.bel).mono ?_
      rintro e wz ⟨rfl, h1, h2, h3⟩
      have HZ := Aside0.mk (HB3.out.reader L h1 h2 h3 (mustS_mem _ _))
      clear h1 h2 h3
      go_wp2
      go_end0
      exact ⟨rfl, _, by rw [HE2.out, HD2.out]; exact HZ.out⟩
    | false =>
      simp only [Bool.false_eq_true, if_false] at hb
      obtain ⟨wm, hmu, hset, hgrow⟩ := HI.out.set.put ⟨#[107, 101, 101, 112]⟩ (by decide) hn
      have HM := Aside0.mk (HI.out.named L _ hgrow hset)
      clear hset hgrow
      go_enter Tryd.func35, Tryd.ntmps35
      go_wp2_with fail
      refine HN.out.mono ?_
      rintro e w2 ⟨rfl, rfl⟩
      go_wp2_with fail
      refine (reader_take_calls w0 _ g _ HM.out.rd HM.out.bel).mono ?_
      rintro e wt ⟨rfl, h1, h2, h3⟩
      have HT1 := Aside0.mk (HM.out.reader L h1 h2 h3 (takeS_mem _))
      clear h1 h2 h3
      clear hmu
      generalize takeS _ = stn at hb HT1
      simp only [Option.some.injEq, Prod.mk.injEq] at hb
      obtain ⟨rfl, rfl⟩ := hb
      have HNk := Aside0.mk (reader_next_calls w0 _ g stn HT1.out.rd HT1.out.bel)
      have cc := ((blk_cell HT1.out.site 5).trans rfl : _ = some (Value.bool sk))
      have zz := (blk_frozen HT1.out.site 5 : _ = false)
      have HE : Aside0 (keepS stn = takeS (if nextS stn = ⟨#[111, 110]⟩ ∨ nextS stn = ⟨#[111, 102, 102]⟩ then stn else failS stn 30)) := ⟨rfl⟩
      have HD : Aside0 (decide (nextS stn = ⟨#[111, 110]⟩) = decide (nextS stn = ⟨#[111, 110]⟩)) := ⟨rfl⟩
      by_cases y1 : nextS stn = ⟨#[111, 110]⟩
      case pos =>
        have HB1 := Aside0.mk (HT1.out.put L 5 (.bool true) ⟨sh, so, sm, sx, sq, true, sl⟩ rfl rfl)
        have c5 := ((blk_cell HB1.out.site 5).trans rfl : _ = some (Value.bool true))
        rw [y1] at HNk
        have HE2 : Aside0 (keepS stn = takeS stn) := ⟨by rw [HE.out, if_pos (.inl y1)]⟩
        have HD2 : Aside0 (decide (nextS stn = ⟨#[111, 110]⟩) = true) := ⟨decide_eq_true y1⟩
        clear y1 HE HD
        go_wp2_with fail
        refine HNk.out.mono ?_
        rintro e w2 ⟨rfl, rfl⟩
        go_wp2_with fail
        refine (reader_take_calls w0 _ g _ HB1.out.rd HB1.out.bel).mono ?_
        rintro e wt2 ⟨rfl, h1, h2, h3⟩
        have HB2 := Aside0.mk (HB1.out.reader L h1 h2 h3 (takeS_mem _))
        clear h1 h2 h3
        go_wp2_with fail
        refine (reader_must_calls w0 _ g _ ⟨#[59]⟩ HB2.out.rd HB2.out.bel).mono ?_
        rintro e wz ⟨rfl, h1, h2, h3⟩
        have HZ := Aside0.mk (HB2.out.reader L h1 h2 h3 (mustS_mem _ _))
        clear h1 h2 h3
        go_wp2
        go_end0
        exact ⟨rfl, _, by rw [HE2.out, HD2.out]; exact HZ.out⟩
      case neg =>
      have HB1 := Aside0.mk (HT1.out.put L 5 (.bool false) ⟨sh, so, sm, sx, sq, false, sl⟩ rfl rfl)
      have c5 := ((blk_cell HB1.out.site 5).trans rfl : _ = some (Value.bool false))
      have HNk2 := Aside0.mk (reader_next_calls w0 _ g stn HB1.out.rd HB1.out.bel)
      have qy := lit_ne y1
      by_cases y2 : nextS stn = ⟨#[111, 102, 102]⟩
      case pos =>
        rw [y2] at HNk HNk2
        have HE2 : Aside0 (keepS stn = takeS stn) := ⟨by rw [HE.out, if_pos (.inr y2)]⟩
        have HD2 : Aside0 (decide (nextS stn = ⟨#[111, 110]⟩) = false) := ⟨decide_eq_false y1⟩
        clear y1 y2 qy HE HD
        go_wp2_with fail
        refine HNk.out.mono ?_
        rintro e w2 ⟨rfl, rfl⟩
        go_wp2_with fail
        refine HNk2.out.mono ?_
        rintro e w2 ⟨rfl, rfl⟩
        go_wp2_with fail
        refine (reader_take_calls w0 _ g _ HB1.out.rd HB1.out.bel).mono ?_
        rintro e wt2 ⟨rfl, h1, h2, h3⟩
        have HB2 := Aside0.mk (HB1.out.reader L h1 h2 h3 (takeS_mem _))
        clear h1 h2 h3
        go_wp2_with fail
        refine (reader_must_calls w0 _ g _ ⟨#[59]⟩ HB2.out.rd HB2.out.bel).mono ?_
        rintro e wz ⟨rfl, h1, h2, h3⟩
        have HZ := Aside0.mk (HB2.out.reader L h1 h2 h3 (mustS_mem _ _))
        clear h1 h2 h3
        go_wp2
        go_end0
        exact ⟨rfl, _, by rw [HE2.out, HD2.out]; exact HZ.out⟩
      case neg =>
      have qy2 := lit_ne y2
      have HE2 : Aside0 (keepS stn = takeS (failS stn 30)) := ⟨by rw [HE.out, if_neg (fun h => h.elim y1 y2)]⟩
      have HD2 : Aside0 (decide (nextS stn = ⟨#[111, 110]⟩) = false) := ⟨decide_eq_false y1⟩
      clear y1 y2 HE HD
      go_wp2_with fail
      refine HNk.out.mono ?_
      rintro e w2 ⟨rfl, rfl⟩
      go_wp2_with fail
      refine HNk2.out.mono ?_
      rintro e w2 ⟨rfl, rfl⟩
      go_wp2_with fail
      refine (reader_fail_calls w0 _ g _ 30 HB1.out.rd HB1.out.bel).mono ?_
      rintro e wf2 ⟨rfl, h1, h2, h3⟩
      have HB2 := Aside0.mk (HB1.out.reader L h1 h2 h3 (fun x hx => by rwa [failS_l] at hx))
      clear h1 h2 h3
      go_wp2_with fail
      refine (reader_take_calls w0 _ g _ HB2.out.rd HB2.out.bel).mono ?_
      rintro e wt2 ⟨rfl, h1, h2, h3⟩
      have HB3 := Aside0.mk (HB2.out.reader L h1 h2 h3 (takeS_mem _))
      clear h1 h2 h3
      go_wp2_with fail
      refine (reader_must_calls w0 _ g _ ⟨#[59]⟩ HB3.out.rd HB3.out.bel).mono ?_
      rintro e wz ⟨rfl, h1, h2, h3⟩
      have HZ := Aside0.mk (HB3.out.reader L h1 h2 h3 (mustS_mem _ _))
      clear h1 h2 h3
      go_wp2
      go_end0
      exact ⟨rfl, _, by rw [HE2.out, HD2.out]; exact HZ.out⟩
  case neg =>
  simp only [bodyF, t1, t2, t3, t4, or_self, if_true, if_false] at hb
  have q1 := lit_ne t1
  have q2 := lit_ne t2
  have q3 := lit_ne t3
  have q4 := lit_ne t4
  clear t1 t2 t3 t4
  generalize nextS st = x at *
  go_enter Tryd.func35, Tryd.ntmps35
  go_wp2_with fail
  refine HN.out.mono ?_
  rintro e w2 ⟨rfl, rfl⟩
  go_wp2_with fail
  refine (reader_fail_calls w0 _ g _ 30 HI.out.rd HI.out.bel).mono ?_
  rintro e wf0 ⟨rfl, h1, h2, h3⟩
  have HI0 := Aside0.mk (HI.out.reader L h1 h2 h3 (fun x hx => by rwa [failS_l] at hx))
  clear h1 h2 h3
  have hlk := HI0.out.set.look x (HX.out)
  generalize inB x seen = bs at *
  cases bs with
  | true =>
    simp only [if_true] at hb
    go_wp2_with fail
    refine (reader_fail_calls w0 _ g _ 31 HI0.out.rd HI0.out.bel).mono ?_
    rintro e wf1 ⟨rfl, h1, h2, h3⟩
    have HI1 := Aside0.mk (HI0.out.reader L h1 h2 h3 (fun x hx => by rwa [failS_l] at hx))
    clear h1 h2 h3
    obtain ⟨wm, hmu, hset, hgrow⟩ := HI1.out.set.put x (HX.out) hn
    have HM := Aside0.mk (HI1.out.named L _ hgrow hset)
    clear hset hgrow hlk
    go_wp2_with fail
    refine (reader_take_calls w0 _ g _ HM.out.rd HM.out.bel).mono ?_
    rintro e wt ⟨rfl, h1, h2, h3⟩
    have HT1 := Aside0.mk (HM.out.reader L h1 h2 h3 (takeS_mem _))
    clear h1 h2 h3
    clear hmu
    generalize takeS _ = stn at hb HT1
    simp only [Option.some.injEq, Prod.mk.injEq] at hb
    obtain ⟨rfl, rfl⟩ := hb
    go_wp2_with fail
    refine (reader_must_calls w0 _ g _ ⟨#[59]⟩ HT1.out.rd HT1.out.bel).mono ?_
    rintro e wz ⟨rfl, h1, h2, h3⟩
    have HZ := Aside0.mk (HT1.out.reader L h1 h2 h3 (mustS_mem _ _))
    clear h1 h2 h3
    go_wp2
    go_end0
    exact ⟨rfl, _, HZ.out⟩
  | false =>
    simp only [Bool.false_eq_true, if_false] at hb
    obtain ⟨wm, hmu, hset, hgrow⟩ := HI0.out.set.put x (HX.out) hn
    have HM := Aside0.mk (HI0.out.named L _ hgrow hset)
    clear hset hgrow
    go_wp2_with fail
    refine (reader_take_calls w0 _ g _ HM.out.rd HM.out.bel).mono ?_
    rintro e wt ⟨rfl, h1, h2, h3⟩
    have HT1 := Aside0.mk (HM.out.reader L h1 h2 h3 (takeS_mem _))
    clear h1 h2 h3
    clear hmu
    generalize takeS _ = stn at hb HT1
    simp only [Option.some.injEq, Prod.mk.injEq] at hb
    obtain ⟨rfl, rfl⟩ := hb
    go_wp2_with fail
    refine (reader_must_calls w0 _ g _ ⟨#[59]⟩ HT1.out.rd HT1.out.bel).mono ?_
    rintro e wz ⟨rfl, h1, h2, h3⟩
    have HZ := Aside0.mk (HT1.out.reader L h1 h2 h3 (mustS_mem _ _))
    clear h1 h2 h3
    go_wp2
    go_end0
    exact ⟨rfl, _, HZ.out⟩
end Go.Proofs.YtcoaajkhfgakgaaDoor.Pr
end

section
namespace Go.Proofs.YtcoaajkhfgakgaaDoor.Pr
open Go.RowKit Go.Proofs.YtcoaajkhfgakgaaDoorW.PrintWords Go.Proofs.YtcoaajkhfgakgaaDoorW.PrintLast Go.Proofs.YtcoaajkhfgakgaaDoorW.PrintMore
attribute [local go_sem] max2_int min2_int max_two min_two max_three min_three max_four min_four   -- for this text's walks alone
set_option linter.unusedVariables false
set_option linter.unusedSimpArgs false
def conf_Config_Find.l0 : Nat → ByteArray → List (S29) → Int → Int → Option (ByteArray × Int × Int × Int × Bool × Bool × List ByteArray × Bool)
  | 0, _, _, _, _ => none
  | k + 1, x1, x9, x10, x11 => if x11 < x10 then (if 0 ≤ x11 then (if x11 < (x9.length : Int) then (if ((rd_T29 x9 x11).f0).toList = x1.toList then ((slices_Clone_string_string.f ((rd_T29 x9 x11).f6)).bind fun t128 => (some ((rd_T29 x9 x11).f0, (rd_T29 x9 x11).f1, (rd_T29 x9 x11).f2, (rd_T29 x9 x11).f3, (rd_T29 x9 x11).f4, (rd_T29 x9 x11).f5, t128, true))) else (conf_Config_Find.l0 k x1 x9 x10 (wrap64 (x11 + 1)))) else (none)) else (none)) else (some ((⟨#[]⟩ : ByteArray), 0, 0, 0, false, false, ([] : List ByteArray), false))
def conf_Config_Find.f (k : Nat) (l0_0 : List (S29)) (a1 : ByteArray) : Option (ByteArray × Int × Int × Int × Bool × Bool × List ByteArray × Bool) := conf_Config_Find.l0 k a1 l0_0 (l0_0.length : Int) 0
theorem conf_Config_Find.mono_l : ∀ k, (∀ y0 y1 y2 y3, LeO (conf_Config_Find.l0 k y0 y1 y2 y3) (conf_Config_Find.l0 (k + 1) y0 y1 y2 y3))
  | 0 => fun _ _ _ _ r h => by simp [conf_Config_Find.l0] at h
  | k + 1 => by
    have ih0 := conf_Config_Find.mono_l k
    · intro y0 y1 y2 y3
      unfold conf_Config_Find.l0
      repeat' first
      | (with_reducible exact ih0 _ _ _ _)
      | (with_reducible exact LeO.refl _)
      | (with_reducible exact LeO.none _)
      | (with_reducible refine LeO.ite ?_ ?_)
      | (with_reducible refine LeO.bind ?_ (fun _ => ?_))
      | exact ih0 _ _ _ _
      | exact LeO.none _
      | refine LeO.ite ?_ ?_
      | refine LeO.bind ?_ (fun _ => ?_)
theorem conf_Config_Find.mono : ∀ a0 a1 k, LeO (conf_Config_Find.f k a0 a1) (conf_Config_Find.f (k + 1) a0 a1) := by
  intro a0 a1 k
  have ih0 := conf_Config_Find.mono_l k
  unfold conf_Config_Find.f
  repeat' first
      | (with_reducible exact ih0 _ _ _ _)
      | (with_reducible exact LeO.refl _)
      | (with_reducible exact LeO.none _)
      | (with_reducible refine LeO.ite ?_ ?_)
      | (with_reducible refine LeO.bind ?_ (fun _ => ?_))
      | exact ih0 _ _ _ _
      | exact LeO.none _
      | refine LeO.ite ?_ ?_
      | refine LeO.bind ?_ (fun _ => ?_)
set_option maxHeartbeats 8000000 in
set_option maxRecDepth 100000 in
theorem conf_Config_Find.calls (k : Nat) (A0_0 : Option Addr) (c0_0 : Nat) (l0_0 : List (S29)) (a1 : ByteArray) (r1 : ByteArray) (r2 : Int) (r3 : Int) (r4 : Int) (r5 : Bool) (r6 : Bool) (r7 : List ByteArray) (r8 : Bool) (w : World) (hr0_0 : Kd.C k29 w A0_0 l0_0.length l0_0) (hc0_0 : l0_0.length ≤ c0_0) (h : conf_Config_Find.f k l0_0 a1 = some (r1, r2, r3, r4, r5, r6, r7, r8)) :
    Calls Tryd.prog 10 #[.agg #[.slice A0_0 l0_0.length c0_0], .string a1] w fun e w' => ∃ v6_ : Value, e = .returned (.tuple #[.agg #[.string r1, .int .i64 r2, .int .i64 r3, .int .i64 r4, .bool r5, .bool r6, v6_], .bool r8]) ∧ Kd.R Kd.string 9 w' w.heap.size (fun _ => True) v6_ r7 ∧ Below w.heap.size w w' := by
  have hu24 := Tryd.underlying24
  have hu29 := Tryd.underlying29
  have HR0_0 := Aside0.mk hr0_0
  have HC0_0 := Aside0.mk hc0_0
  clear hr0_0 hc0_0
  have HB := Aside0.mk (Below.refl w.heap.size w)
  have H : (conf_Config_Find.l0 k a1 l0_0 (l0_0.length : Int) 0) = some (r1, r2, r3, r4, r5, r6, r7, r8) := h
  clear h
  have H' := Aside0.mk H
  clear H
  go_enter Tryd.func10, Tryd.ntmps10
  go_wp2_with (first | ((with_reducible refine gate_dst (N := 2) rfl ?_); refine box_event ?hg (N := 2) ?hd (cs := #[.slice A0_0 l0_0.length c0_0]) (t := 24) ?hr ?_; (case hd => rfl); (case hg => rfl); (case hr => first | (go_simp; done) | (go_simp; rfl)); intro gb124 hg w3 hbox hb; have n0_ := Aside0.mk (below_step (by repeat (first | (with_reducible first | exact HB.out | apply below_alloc | apply pw_below_drewN | apply below_drew1) | exact HB.out)) hb); have n1_ := Aside0.mk (hbox); have n2_ := Aside0.mk ((by rw [hg]; exact (below_size (by repeat (first | (with_reducible first | exact HB.out | apply below_alloc | apply pw_below_drewN | apply below_drew1) | exact HB.out))) : w.heap.size ≤ gb124)); have n3_ := Aside0.mk ((by rw [hg]; exact (below_size (by repeat (first | (with_reducible first | exact HB.out | apply below_alloc | apply pw_below_drewN | apply below_drew1) | exact HB.out))) : w.heap.size ≤ gb124)); clear HB; have HB := n0_; have BK124 := n1_; have GW124 := n2_; have GE124 := n3_; clear n0_ n1_ n2_ n3_; clear hb hbox hg) | ((with_reducible refine gate_dst (N := 4) rfl ?_); refine box_event ?hg (N := 4) ?hd (cs := #[.string (⟨#[]⟩ : ByteArray), .int .i64 0, .int .i64 0, .int .i64 0, .bool false, .bool false, .slice none 0 0]) (t := 29) ?hr ?_; (case hd => rfl); (case hg => rfl); (case hr => first | (go_simp; done) | (go_simp; rfl)); intro gb125 hg w4 hbox hb; have n0_ := Aside0.mk (blk_below (g := gb124) (o := .cells #[.slice A0_0 l0_0.length c0_0] 24 (0, 0)) (by (with_reducible repeat (first | refine blk_drewN ?_ _ | refine blk_drew ?_ | refine blk_alloc ?_ _)); exact BK124.out) hb); have n1_ := Aside0.mk (below_step (by repeat (first | (with_reducible first | exact HB.out | apply below_alloc | apply pw_below_drewN | apply below_drew1 | refine below_set ?_ GE124.out) | exact HB.out)) hb); have n2_ := Aside0.mk (hbox); have n3_ := Aside0.mk ((by rw [hg]; exact (below_size (by repeat (first | (with_reducible first | exact HB.out | apply below_alloc | apply pw_below_drewN | apply below_drew1 | refine below_set ?_ GE124.out) | exact HB.out))) : w.heap.size ≤ gb125)); have n4_ := Aside0.mk ((by rw [hg]; exact (below_size (by repeat (first | (with_reducible first | exact HB.out | apply below_alloc | apply pw_below_drewN | apply below_drew1 | refine below_set ?_ GE124.out) | exact HB.out))) : w.heap.size ≤ gb125)); have n5_ := Aside0.mk ((by rw [hg]; exact Nat.ne_of_lt (blk_lt (g := gb124) (o := .cells #[.slice A0_0 l0_0.length c0_0] 24 (0, 0)) (by (with_reducible repeat (first | refine blk_drewN ?_ _ | refine blk_drew ?_ | refine blk_alloc ?_ _)); exact BK124.out)) : gb124 ≠ gb125)); have n6_ := Aside0.mk ((by rw [hg]; exact Nat.ne_of_gt (blk_lt (g := gb124) (o := .cells #[.slice A0_0 l0_0.length c0_0] 24 (0, 0)) (by (with_reducible repeat (first | refine blk_drewN ?_ _ | refine blk_drew ?_ | refine blk_alloc ?_ _)); exact BK124.out)) : gb125 ≠ gb124)); clear BK124; clear HB; have BK124 := n0_; have HB := n1_; have BK125 := n2_; have GW125 := n3_; have GE125 := n4_; have NB124_125 := n5_; have NB125_124 := n6_; clear n0_ n1_ n2_ n3_ n4_ n5_ n6_; clear hb hbox hg; have hnb5 := NB124_125.out; have hnc5 := NB125_124.out; have hcz6_0 : w4.cell? ⟨gb124, 0, none⟩ = some (.slice A0_0 l0_0.length c0_0) := (blk_cell BK124.out 0).trans rfl; have hfz6_0 := blk_frozen BK124.out 0))
  go_loopg [11] k (fun kq v11 w' => ∃ (x11_1 : Int) (x126000_1 : ByteArray) (x126001_1 : Int) (x126002_1 : Int) (x126003_1 : Int) (x126004_1 : Bool) (x126005_1 : Bool), v11 = .int .i64 x11_1 ∧ Aside0 (conf_Config_Find.l0 kq a1 l0_0 (l0_0.length : Int) x11_1 = some (r1, r2, r3, r4, r5, r6, r7, r8)) ∧ Aside0 (kq ≤ k) ∧ Aside0 (w'.heap[gb124]? = some (.cells #[(.slice A0_0 l0_0.length c0_0)] 24 (0, 0))) ∧ Aside0 (w'.heap[gb125]? = some (.cells #[.string x126000_1, .int .i64 x126001_1, .int .i64 x126002_1, .int .i64 x126003_1, .bool x126004_1, .bool x126005_1, (.slice none 0 0)] 29 (0, 0))) ∧ Aside0 (Below w.heap.size w w'))
  case atStart => exact ⟨(0), ((⟨#[]⟩ : ByteArray)), (0), (0), (0), (false), (false), (by first | rfl | (simp; done) | (simp [*]; done)), H', ⟨Nat.le_refl _⟩, ⟨by (with_reducible repeat (first | refine blk_drewN ?_ _ | refine blk_drew ?_ | refine blk_alloc ?_ _)); exact BK124.out⟩, ⟨by (with_reducible repeat (first | refine blk_drewN ?_ _ | refine blk_drew ?_ | refine blk_alloc ?_ _)); exact BK125.out⟩, ⟨by repeat (first | (with_reducible first | exact HB.out | apply below_alloc | apply pw_below_drewN | apply below_drew1 | refine below_set ?_ GE124.out | refine below_set ?_ GE125.out) | exact HB.out)⟩⟩
  case round =>
    clear H'
    try clear c1
    try clear p2
    try clear c5
    try clear hcz6_0
    try clear hfz6_0
    obtain ⟨x11_1, x126000_1, x126001_1, x126002_1, x126003_1, x126004_1, x126005_1, rfl, HA, HK1, BK124, BK125, HB⟩ := hrel
    cases gk with
    | zero => exact absurd HA.out (by simp [conf_Config_Find.l0])
    | succ k1 =>
      have H := HA.out
      clear HA
      simp only [conf_Config_Find.l0] at H
      by_cases c7 : x11_1 < (l0_0.length : Int)
      · rw [if_pos c7] at H
        have c7b0 : decide (x11_1 < (l0_0.length : Int)) = true := decide_eq_true c7
        clear c7
        by_cases c8 : 0 ≤ x11_1
        · rw [if_pos c8] at H
          have c8b0 : decide (0 ≤ x11_1) = true := decide_eq_true c8
          clear c8
          by_cases c9 : x11_1 < (l0_0.length : Int)
          · rw [if_pos c9] at H
            have c9b0 : decide (x11_1 < (l0_0.length : Int)) = true := decide_eq_true c9
            clear c9
            by_cases c10 : ((rd_T29 l0_0 x11_1).f0).toList = a1.toList
            · rw [if_pos c10] at H
              have c10b0 : (((rd_T29 l0_0 x11_1).f0).toList == a1.toList) = true := beq_iff_eq.mpr c10
              have c10b1 : (((rd_T29 l0_0 x11_1).f0).toList != a1.toList) = false := bne_eq_false_iff_eq.mpr c10
              clear c10
              replace H := Option.bind_eq_some_iff.mp H
              obtain ⟨t128, A110, H⟩ := H
              replace H : (some ((rd_T29 l0_0 x11_1).f0, (rd_T29 l0_0 x11_1).f1, (rd_T29 l0_0 x11_1).f2, (rd_T29 l0_0 x11_1).f3, (rd_T29 l0_0 x11_1).f4, (rd_T29 l0_0 x11_1).f5, t128, true)) = some (r1, r2, r3, r4, r5, r6, r7, r8) := H
              have A11 := Aside0.mk A110
              clear A110
              simp only [Option.some.injEq, Prod.mk.injEq] at H
              obtain ⟨rfl, rfl, rfl, rfl, rfl, rfl, rfl, rfl⟩ := H
              have p126 : 0 ≤ (x11_1 : Int) := of_decide_eq_true (by first | (with_reducible assumption) | assumption)
              have q126 : x11_1 < (l0_0.length : Int) := of_decide_eq_true (by first | (with_reducible assumption) | assumption)
              obtain ⟨ad126, A126_6, c126_6, e126, hx126_0, hx126_1, hx126_2, hx126_3, hx126_4, hx126_5, hx126_6, hl126_6, hi126_6⟩ := at_T29 HR0_0.out x11_1 p126 q126
              cases e126
              replace hx126_0 := (HB.out.cell (World.block_lt_of_cell? w _ hx126_0)).trans hx126_0
              replace hx126_1 := (HB.out.cell (World.block_lt_of_cell? w _ hx126_1)).trans hx126_1
              replace hx126_2 := (HB.out.cell (World.block_lt_of_cell? w _ hx126_2)).trans hx126_2
              replace hx126_3 := (HB.out.cell (World.block_lt_of_cell? w _ hx126_3)).trans hx126_3
              replace hx126_4 := (HB.out.cell (World.block_lt_of_cell? w _ hx126_4)).trans hx126_4
              replace hx126_5 := (HB.out.cell (World.block_lt_of_cell? w _ hx126_5)).trans hx126_5
              replace hx126_6 := (HB.out.cell (World.block_lt_of_cell? w _ hx126_6)).trans hx126_6
              have HR126_6 := Aside0.mk hi126_6
              have HC126_6 := Aside0.mk hl126_6
              clear hi126_6 hl126_6
              replace p126 := eq_true p126
              replace q126 := eq_true q126
              go_wp2_with (first | ((with_reducible refine gate_dst (N := 7) rfl ?_); refine box_event ?hg (N := 7) ?hd (cs := #[.string (⟨#[]⟩ : ByteArray), .int .i64 0, .int .i64 0, .int .i64 0, .bool false, .bool false, .slice none 0 0]) (t := 29) ?hr ?_; (case hd => rfl); (case hg => rfl); (case hr => first | (go_simp; done) | (go_simp; rfl)); intro gb127 hg w12 hbox hb; have n0_ := Aside0.mk (blk_below (g := gb124) (o := .cells #[.slice (some ad126) l0_0.length c0_0] 24 (0, 0)) (by (with_reducible repeat (first | refine blk_drewN ?_ _ | refine blk_drew ?_ | refine blk_alloc ?_ _)); exact BK124.out) hb); have n1_ := Aside0.mk (blk_below (g := gb125) (o := .cells #[.string x126000_1, .int .i64 x126001_1, .int .i64 x126002_1, .int .i64 x126003_1, .bool x126004_1, .bool x126005_1, .slice none 0 0] 29 (0, 0)) (by (with_reducible repeat (first | refine blk_drewN ?_ _ | refine blk_drew ?_ | refine blk_alloc ?_ _)); exact BK125.out) hb); have n2_ := Aside0.mk (below_step (by repeat (first | (with_reducible first | exact HB.out | apply below_alloc | apply pw_below_drewN | apply below_drew1 | refine below_set ?_ GE124.out | refine below_set ?_ GE125.out) | exact HB.out)) hb); have n3_ := Aside0.mk (hbox); have n4_ := Aside0.mk ((by rw [hg]; exact (below_size (by repeat (first | (with_reducible first | exact HB.out | apply below_alloc | apply pw_below_drewN | apply below_drew1 | refine below_set ?_ GE124.out | refine below_set ?_ GE125.out) | exact HB.out))) : w.heap.size ≤ gb127)); have n5_ := Aside0.mk ((by rw [hg]; exact (below_size (by repeat (first | (with_reducible first | exact HB.out | apply below_alloc | apply pw_below_drewN | apply below_drew1 | refine below_set ?_ GE124.out | refine below_set ?_ GE125.out) | exact HB.out))) : w.heap.size ≤ gb127)); have n6_ := Aside0.mk ((by rw [hg]; exact Nat.ne_of_lt (blk_lt (g := gb124) (o := .cells #[.slice (some ad126) l0_0.length c0_0] 24 (0, 0)) (by (with_reducible repeat (first | refine blk_drewN ?_ _ | refine blk_drew ?_ | refine blk_alloc ?_ _)); exact BK124.out)) : gb124 ≠ gb127)); have n7_ := Aside0.mk ((by rw [hg]; exact Nat.ne_of_gt (blk_lt (g := gb124) (o := .cells #[.slice (some ad126) l0_0.length c0_0] 24 (0, 0)) (by (with_reducible repeat (first | refine blk_drewN ?_ _ | refine blk_drew ?_ | refine blk_alloc ?_ _)); exact BK124.out)) : gb127 ≠ gb124)); have n8_ := Aside0.mk ((by rw [hg]; exact Nat.ne_of_lt (blk_lt (g := gb125) (o := .cells #[.string x126000_1, .int .i64 x126001_1, .int .i64 x126002_1, .int .i64 x126003_1, .bool x126004_1, .bool x126005_1, .slice none 0 0] 29 (0, 0)) (by (with_reducible repeat (first | refine blk_drewN ?_ _ | refine blk_drew ?_ | refine blk_alloc ?_ _)); exact BK125.out)) : gb125 ≠ gb127)); have n9_ := Aside0.mk ((by rw [hg]; exact Nat.ne_of_gt (blk_lt (g := gb125) (o := .cells #[.string x126000_1, .int .i64 x126001_1, .int .i64 x126002_1, .int .i64 x126003_1, .bool x126004_1, .bool x126005_1, .slice none 0 0] 29 (0, 0)) (by (with_reducible repeat (first | refine blk_drewN ?_ _ | refine blk_drew ?_ | refine blk_alloc ?_ _)); exact BK125.out)) : gb127 ≠ gb125)); clear BK124; clear BK125; clear HB; have BK124 := n0_; have BK125 := n1_; have HB := n2_; have BK127 := n3_; have GW127 := n4_; have GE127 := n5_; have NB124_127 := n6_; have NB127_124 := n7_; have NB125_127 := n8_; have NB127_125 := n9_; clear n0_ n1_ n2_ n3_ n4_ n5_ n6_ n7_ n8_ n9_; clear hb hbox hg; have hnb13 := NB127_124.out; have hnc13 := NB124_127.out; have hnb14 := NB127_125.out; have hnc14 := NB125_127.out; have hcz15_0 : w12.cell? ⟨gb127, 0, none⟩ = some (.string (⟨#[]⟩ : ByteArray)) := (blk_cell BK127.out 0).trans rfl; have hcz15_1 : w12.cell? ⟨gb127, 1, none⟩ = some (.int .i64 0) := (blk_cell BK127.out 1).trans rfl; have hcz15_2 : w12.cell? ⟨gb127, 2, none⟩ = some (.int .i64 0) := (blk_cell BK127.out 2).trans rfl; have hcz15_3 : w12.cell? ⟨gb127, 3, none⟩ = some (.int .i64 0) := (blk_cell BK127.out 3).trans rfl; have hcz15_4 : w12.cell? ⟨gb127, 4, none⟩ = some (.bool false) := (blk_cell BK127.out 4).trans rfl; have hcz15_5 : w12.cell? ⟨gb127, 5, none⟩ = some (.bool false) := (blk_cell BK127.out 5).trans rfl; have hcz15_6 : w12.cell? ⟨gb127, 6, none⟩ = some (.slice none 0 0) := (blk_cell BK127.out 6).trans rfl; have hfz15_0 := blk_frozen BK127.out 0; have hfz15_1 := blk_frozen BK127.out 1; have hfz15_2 := blk_frozen BK127.out 2; have hfz15_3 := blk_frozen BK127.out 3; have hfz15_4 := blk_frozen BK127.out 4; have hfz15_5 := blk_frozen BK127.out 5; have hfz15_6 := blk_frozen BK127.out 6) | ((with_reducible refine gate_callee (f := 19) rfl ?_); refine goesL_ (some 21) rfl rfl Tryd.func19 (by kernel_rfl) rfl #[.slice A126_6 ((rd_T29 l0_0 x11_1).f6).length c126_6] rfl (by (try simp only [List.map_toArray, List.map_cons, List.map_nil]); first | done | rfl | (simp only [List.length_drop, List.length_take]; rfl)) ?_; (with_reducible refine (slices_Clone_string_string.calls _ _ ((rd_T29 l0_0 x11_1).f6) t128 _ ?side1 ?side2 A11.out).mono ?_); (case side1 => exact Kd.C_below HR126_6.out (by repeat (first | (with_reducible first | exact HB.out | apply below_alloc | apply pw_below_drewN | apply below_drew1 | refine below_set ?_ GE124.out | refine below_set ?_ GE125.out | refine below_set ?_ GE127.out) | exact HB.out))); (case side2 => exact HC126_6.out); rintro e w16 ⟨v129, rfl, ho0, hb⟩; refine ⟨_, rfl, ?_⟩; have n0_ := Aside0.mk (Kd.R_lower ho0 (below_size (by repeat (first | (with_reducible first | exact HB.out | apply below_alloc | apply pw_below_drewN | apply below_drew1 | refine below_set ?_ GE124.out | refine below_set ?_ GE125.out | refine below_set ?_ GE127.out) | exact HB.out)))); have n1_ := Aside0.mk (blk_below (g := gb124) (o := .cells #[.slice (some ad126) l0_0.length c0_0] 24 (0, 0)) (by (with_reducible repeat (first | refine blk_drewN ?_ _ | refine blk_drew ?_ | refine blk_alloc ?_ _)); refine blk_far ?_ NB124_127.out _; (with_reducible repeat (first | refine blk_drewN ?_ _ | refine blk_drew ?_ | refine blk_alloc ?_ _)); refine blk_far ?_ NB124_127.out _; (with_reducible repeat (first | refine blk_drewN ?_ _ | refine blk_drew ?_ | refine blk_alloc ?_ _)); refine blk_far ?_ NB124_127.out _; (with_reducible repeat (first | refine blk_drewN ?_ _ | refine blk_drew ?_ | refine blk_alloc ?_ _)); refine blk_far ?_ NB124_127.out _; (with_reducible repeat (first | refine blk_drewN ?_ _ | refine blk_drew ?_ | refine blk_alloc ?_ _)); refine blk_far ?_ NB124_127.out _; (with_reducible repeat (first | refine blk_drewN ?_ _ | refine blk_drew ?_ | refine blk_alloc ?_ _)); refine blk_far ?_ NB124_127.out _; (with_reducible repeat (first | refine blk_drewN ?_ _ | refine blk_drew ?_ | refine blk_alloc ?_ _)); refine blk_far ?_ NB124_127.out _; (with_reducible repeat (first | refine blk_drewN ?_ _ | refine blk_drew ?_ | refine blk_alloc ?_ _)); exact BK124.out) hb); have n2_ := Aside0.mk (blk_below (g := gb125) (o := .cells #[.string x126000_1, .int .i64 x126001_1, .int .i64 x126002_1, .int .i64 x126003_1, .bool x126004_1, .bool x126005_1, .slice none 0 0] 29 (0, 0)) (by (with_reducible repeat (first | refine blk_drewN ?_ _ | refine blk_drew ?_ | refine blk_alloc ?_ _)); refine blk_far ?_ NB125_127.out _; (with_reducible repeat (first | refine blk_drewN ?_ _ | refine blk_drew ?_ | refine blk_alloc ?_ _)); refine blk_far ?_ NB125_127.out _; (with_reducible repeat (first | refine blk_drewN ?_ _ | refine blk_drew ?_ | refine blk_alloc ?_ _)); refine blk_far ?_ NB125_127.out _; (with_reducible repeat (first | refine blk_drewN ?_ _ | refine blk_drew ?_ | refine blk_alloc ?_ _)); refine blk_far ?_ NB125_127.out _; (with_reducible repeat (first | refine blk_drewN ?_ _ | refine blk_drew ?_ | refine blk_alloc ?_ _)); refine blk_far ?_ NB125_127.out _; (with_reducible repeat (first | refine blk_drewN ?_ _ | refine blk_drew ?_ | refine blk_alloc ?_ _)); refine blk_far ?_ NB125_127.out _; (with_reducible repeat (first | refine blk_drewN ?_ _ | refine blk_drew ?_ | refine blk_alloc ?_ _)); refine blk_far ?_ NB125_127.out _; (with_reducible repeat (first | refine blk_drewN ?_ _ | refine blk_drew ?_ | refine blk_alloc ?_ _)); exact BK125.out) hb); have n3_ := Aside0.mk (blk_below (g := gb127) (o := .cells #[.string ((rd_T29 l0_0 x11_1).f0), .int .i64 ((rd_T29 l0_0 x11_1).f1), .int .i64 ((rd_T29 l0_0 x11_1).f2), .int .i64 ((rd_T29 l0_0 x11_1).f3), .bool ((rd_T29 l0_0 x11_1).f4), .bool ((rd_T29 l0_0 x11_1).f5), .slice A126_6 ((rd_T29 l0_0 x11_1).f6).length c126_6] 29 (0, 0)) (by (with_reducible repeat (first | refine blk_drewN ?_ _ | refine blk_drew ?_ | refine blk_alloc ?_ _)); refine blk_put (cs := #[.string ((rd_T29 l0_0 x11_1).f0), .int .i64 ((rd_T29 l0_0 x11_1).f1), .int .i64 ((rd_T29 l0_0 x11_1).f2), .int .i64 ((rd_T29 l0_0 x11_1).f3), .bool ((rd_T29 l0_0 x11_1).f4), .bool ((rd_T29 l0_0 x11_1).f5), .slice none 0 0]) ?_ 6 _ rfl; (with_reducible repeat (first | refine blk_drewN ?_ _ | refine blk_drew ?_ | refine blk_alloc ?_ _)); refine blk_put (cs := #[.string ((rd_T29 l0_0 x11_1).f0), .int .i64 ((rd_T29 l0_0 x11_1).f1), .int .i64 ((rd_T29 l0_0 x11_1).f2), .int .i64 ((rd_T29 l0_0 x11_1).f3), .bool ((rd_T29 l0_0 x11_1).f4), .bool false, .slice none 0 0]) ?_ 5 _ rfl; (with_reducible repeat (first | refine blk_drewN ?_ _ | refine blk_drew ?_ | refine blk_alloc ?_ _)); refine blk_put (cs := #[.string ((rd_T29 l0_0 x11_1).f0), .int .i64 ((rd_T29 l0_0 x11_1).f1), .int .i64 ((rd_T29 l0_0 x11_1).f2), .int .i64 ((rd_T29 l0_0 x11_1).f3), .bool false, .bool false, .slice none 0 0]) ?_ 4 _ rfl; (with_reducible repeat (first | refine blk_drewN ?_ _ | refine blk_drew ?_ | refine blk_alloc ?_ _)); refine blk_put (cs := #[.string ((rd_T29 l0_0 x11_1).f0), .int .i64 ((rd_T29 l0_0 x11_1).f1), .int .i64 ((rd_T29 l0_0 x11_1).f2), .int .i64 0, .bool false, .bool false, .slice none 0 0]) ?_ 3 _ rfl; (with_reducible repeat (first | refine blk_drewN ?_ _ | refine blk_drew ?_ | refine blk_alloc ?_ _)); refine blk_put (cs := #[.string ((rd_T29 l0_0 x11_1).f0), .int .i64 ((rd_T29 l0_0 x11_1).f1), .int .i64 0, .int .i64 0, .bool false, .bool false, .slice none 0 0]) ?_ 2 _ rfl; (with_reducible repeat (first | refine blk_drewN ?_ _ | refine blk_drew ?_ | refine blk_alloc ?_ _)); refine blk_put (cs := #[.string ((rd_T29 l0_0 x11_1).f0), .int .i64 0, .int .i64 0, .int .i64 0, .bool false, .bool false, .slice none 0 0]) ?_ 1 _ rfl; (with_reducible repeat (first | refine blk_drewN ?_ _ | refine blk_drew ?_ | refine blk_alloc ?_ _)); refine blk_put (cs := #[.string (⟨#[]⟩ : ByteArray), .int .i64 0, .int .i64 0, .int .i64 0, .bool false, .bool false, .slice none 0 0]) ?_ 0 _ rfl; (with_reducible repeat (first | refine blk_drewN ?_ _ | refine blk_drew ?_ | refine blk_alloc ?_ _)); exact BK127.out) hb); have n4_ := Aside0.mk (below_step (by repeat (first | (with_reducible first | exact HB.out | apply below_alloc | apply pw_below_drewN | apply below_drew1 | refine below_set ?_ GE124.out | refine below_set ?_ GE125.out | refine below_set ?_ GE127.out) | exact HB.out)) hb); clear BK124; clear BK125; clear BK127; clear HB; have HO130 := n0_; have BK124 := n1_; have BK125 := n2_; have BK127 := n3_; have HB := n4_; clear n0_ n1_ n2_ n3_ n4_; (try clear hb); (try clear hb2); (try clear hk); (try clear hi); (try clear ho0); obtain ⟨Ao17, co17, eo17⟩ := Kd.R_slice HO130.out; subst eo17; have hcz18_0 : w16.cell? ⟨gb127, 0, none⟩ = some (.string ((rd_T29 l0_0 x11_1).f0)) := (blk_cell BK127.out 0).trans rfl; have hcz18_1 : w16.cell? ⟨gb127, 1, none⟩ = some (.int .i64 ((rd_T29 l0_0 x11_1).f1)) := (blk_cell BK127.out 1).trans rfl; have hcz18_2 : w16.cell? ⟨gb127, 2, none⟩ = some (.int .i64 ((rd_T29 l0_0 x11_1).f2)) := (blk_cell BK127.out 2).trans rfl; have hcz18_3 : w16.cell? ⟨gb127, 3, none⟩ = some (.int .i64 ((rd_T29 l0_0 x11_1).f3)) := (blk_cell BK127.out 3).trans rfl; have hcz18_4 : w16.cell? ⟨gb127, 4, none⟩ = some (.bool ((rd_T29 l0_0 x11_1).f4)) := (blk_cell BK127.out 4).trans rfl; have hcz18_5 : w16.cell? ⟨gb127, 5, none⟩ = some (.bool ((rd_T29 l0_0 x11_1).f5)) := (blk_cell BK127.out 5).trans rfl; have hcz18_6 : w16.cell? ⟨gb127, 6, none⟩ = some (.slice A126_6 ((rd_T29 l0_0 x11_1).f6).length c126_6) := (blk_cell BK127.out 6).trans rfl; have hfz18_0 := blk_frozen BK127.out 0; have hfz18_1 := blk_frozen BK127.out 1; have hfz18_2 := blk_frozen BK127.out 2; have hfz18_3 := blk_frozen BK127.out 3; have hfz18_4 := blk_frozen BK127.out 4; have hfz18_5 := blk_frozen BK127.out 5; have hfz18_6 := blk_frozen BK127.out 6; have hnb19 := NB125_124.out; have hnc19 := NB124_125.out; have hcz20_0 : w16.cell? ⟨gb125, 0, none⟩ = some (.string x126000_1) := (blk_cell BK125.out 0).trans rfl; have hcz20_1 : w16.cell? ⟨gb125, 1, none⟩ = some (.int .i64 x126001_1) := (blk_cell BK125.out 1).trans rfl; have hcz20_2 : w16.cell? ⟨gb125, 2, none⟩ = some (.int .i64 x126002_1) := (blk_cell BK125.out 2).trans rfl; have hcz20_3 : w16.cell? ⟨gb125, 3, none⟩ = some (.int .i64 x126003_1) := (blk_cell BK125.out 3).trans rfl; have hcz20_4 : w16.cell? ⟨gb125, 4, none⟩ = some (.bool x126004_1) := (blk_cell BK125.out 4).trans rfl; have hcz20_5 : w16.cell? ⟨gb125, 5, none⟩ = some (.bool x126005_1) := (blk_cell BK125.out 5).trans rfl; have hcz20_6 : w16.cell? ⟨gb125, 6, none⟩ = some (.slice none 0 0) := (blk_cell BK125.out 6).trans rfl; have hfz20_0 := blk_frozen BK125.out 0; have hfz20_1 := blk_frozen BK125.out 1; have hfz20_2 := blk_frozen BK125.out 2; have hfz20_3 := blk_frozen BK125.out 3; have hfz20_4 := blk_frozen BK125.out 4; have hfz20_5 := blk_frozen BK125.out 5; have hfz20_6 := blk_frozen BK125.out 6))
              refine bodyPost_ret (results_ct rfl _ _ gb125 29 #[.string ((rd_T29 l0_0 x11_1).f0), .int .i64 ((rd_T29 l0_0 x11_1).f1), .int .i64 ((rd_T29 l0_0 x11_1).f2), .int .i64 ((rd_T29 l0_0 x11_1).f3), .bool ((rd_T29 l0_0 x11_1).f4), .bool ((rd_T29 l0_0 x11_1).f5), .slice Ao17 t128.length co17] (0, 0) _ rfl (by (with_reducible repeat (first | refine blk_drewN ?_ _ | refine blk_drew ?_ | refine blk_alloc ?_ _)); refine blk_put (cs := #[.string ((rd_T29 l0_0 x11_1).f0), .int .i64 ((rd_T29 l0_0 x11_1).f1), .int .i64 ((rd_T29 l0_0 x11_1).f2), .int .i64 ((rd_T29 l0_0 x11_1).f3), .bool ((rd_T29 l0_0 x11_1).f4), .bool ((rd_T29 l0_0 x11_1).f5), .slice none 0 0]) ?_ 6 _ rfl; (with_reducible repeat (first | refine blk_drewN ?_ _ | refine blk_drew ?_ | refine blk_alloc ?_ _)); refine blk_put (cs := #[.string ((rd_T29 l0_0 x11_1).f0), .int .i64 ((rd_T29 l0_0 x11_1).f1), .int .i64 ((rd_T29 l0_0 x11_1).f2), .int .i64 ((rd_T29 l0_0 x11_1).f3), .bool ((rd_T29 l0_0 x11_1).f4), .bool x126005_1, .slice none 0 0]) ?_ 5 _ rfl; (with_reducible repeat (first | refine blk_drewN ?_ _ | refine blk_drew ?_ | refine blk_alloc ?_ _)); refine blk_put (cs := #[.string ((rd_T29 l0_0 x11_1).f0), .int .i64 ((rd_T29 l0_0 x11_1).f1), .int .i64 ((rd_T29 l0_0 x11_1).f2), .int .i64 ((rd_T29 l0_0 x11_1).f3), .bool x126004_1, .bool x126005_1, .slice none 0 0]) ?_ 4 _ rfl; (with_reducible repeat (first | refine blk_drewN ?_ _ | refine blk_drew ?_ | refine blk_alloc ?_ _)); refine blk_put (cs := #[.string ((rd_T29 l0_0 x11_1).f0), .int .i64 ((rd_T29 l0_0 x11_1).f1), .int .i64 ((rd_T29 l0_0 x11_1).f2), .int .i64 x126003_1, .bool x126004_1, .bool x126005_1, .slice none 0 0]) ?_ 3 _ rfl; (with_reducible repeat (first | refine blk_drewN ?_ _ | refine blk_drew ?_ | refine blk_alloc ?_ _)); refine blk_put (cs := #[.string ((rd_T29 l0_0 x11_1).f0), .int .i64 ((rd_T29 l0_0 x11_1).f1), .int .i64 x126002_1, .int .i64 x126003_1, .bool x126004_1, .bool x126005_1, .slice none 0 0]) ?_ 2 _ rfl; (with_reducible repeat (first | refine blk_drewN ?_ _ | refine blk_drew ?_ | refine blk_alloc ?_ _)); refine blk_put (cs := #[.string ((rd_T29 l0_0 x11_1).f0), .int .i64 x126001_1, .int .i64 x126002_1, .int .i64 x126003_1, .bool x126004_1, .bool x126005_1, .slice none 0 0]) ?_ 1 _ rfl; (with_reducible repeat (first | refine blk_drewN ?_ _ | refine blk_drew ?_ | refine blk_alloc ?_ _)); refine blk_put (cs := #[.string x126000_1, .int .i64 x126001_1, .int .i64 x126002_1, .int .i64 x126003_1, .bool x126004_1, .bool x126005_1, .slice none 0 0]) ?_ 0 _ rfl; (with_reducible repeat (first | refine blk_drewN ?_ _ | refine blk_drew ?_ | refine blk_alloc ?_ _)); refine blk_far ?_ NB125_127.out _; (with_reducible repeat (first | refine blk_drewN ?_ _ | refine blk_drew ?_ | refine blk_alloc ?_ _)); exact BK125.out) Tryd.underlying29 rfl (by kernel_rfl)) rfl ?_
              exact ⟨_, by first | rfl | (simp [errW_none, errW_some] <;> rfl) | (simp [*, errW_none, errW_some] <;> rfl), by (with_reducible repeat (first | apply Kd.R_alloc | apply Kd.R_drewN | apply Kd.R_drew)); exact Kd.R_mono (Kd.R_far (p := ⟨gb125, 6, none⟩) (Kd.R_far (p := ⟨gb125, 5, none⟩) (Kd.R_far (p := ⟨gb125, 4, none⟩) (Kd.R_far (p := ⟨gb125, 3, none⟩) (Kd.R_far (p := ⟨gb125, 2, none⟩) (Kd.R_far (p := ⟨gb125, 1, none⟩) (Kd.R_far (p := ⟨gb125, 0, none⟩) (Kd.R_far (p := ⟨gb127, 6, none⟩) (Kd.R_types (Kd.R_types HO130.out BK127.out (by decide)) BK125.out (by decide)) (fun _ hk => hk.1.2) (.slice Ao17 t128.length co17)) (fun _ hk => hk.2) (.string ((rd_T29 l0_0 x11_1).f0))) (fun _ hk => hk.2) (.int .i64 ((rd_T29 l0_0 x11_1).f1))) (fun _ hk => hk.2) (.int .i64 ((rd_T29 l0_0 x11_1).f2))) (fun _ hk => hk.2) (.int .i64 ((rd_T29 l0_0 x11_1).f3))) (fun _ hk => hk.2) (.bool ((rd_T29 l0_0 x11_1).f4))) (fun _ hk => hk.2) (.bool ((rd_T29 l0_0 x11_1).f5))) (fun _ hk => hk.2) (.slice Ao17 t128.length co17)) (fun _ hk => trivial), by repeat (first | (with_reducible first | exact HB.out | apply below_alloc | apply pw_below_drewN | apply below_drew1 | refine below_set ?_ GE124.out | refine below_set ?_ GE125.out | refine below_set ?_ GE127.out) | exact HB.out)⟩
            · rw [if_neg c10] at H
              have c10b0 : (((rd_T29 l0_0 x11_1).f0).toList == a1.toList) = false := beq_eq_false_iff_ne.mpr c10
              have c10b1 : (((rd_T29 l0_0 x11_1).f0).toList != a1.toList) = true := bne_iff_ne.mpr c10
              have H' := Aside0.mk H
              clear H
              have p126 : 0 ≤ (x11_1 : Int) := of_decide_eq_true (by first | (with_reducible assumption) | assumption)
              have q126 : x11_1 < (l0_0.length : Int) := of_decide_eq_true (by first | (with_reducible assumption) | assumption)
              obtain ⟨ad126, A126_6, c126_6, e126, hx126_0, hx126_1, hx126_2, hx126_3, hx126_4, hx126_5, hx126_6, hl126_6, hi126_6⟩ := at_T29 HR0_0.out x11_1 p126 q126
              cases e126
              replace hx126_0 := (HB.out.cell (World.block_lt_of_cell? w _ hx126_0)).trans hx126_0
              replace hx126_1 := (HB.out.cell (World.block_lt_of_cell? w _ hx126_1)).trans hx126_1
              replace hx126_2 := (HB.out.cell (World.block_lt_of_cell? w _ hx126_2)).trans hx126_2
              replace hx126_3 := (HB.out.cell (World.block_lt_of_cell? w _ hx126_3)).trans hx126_3
              replace hx126_4 := (HB.out.cell (World.block_lt_of_cell? w _ hx126_4)).trans hx126_4
              replace hx126_5 := (HB.out.cell (World.block_lt_of_cell? w _ hx126_5)).trans hx126_5
              replace hx126_6 := (HB.out.cell (World.block_lt_of_cell? w _ hx126_6)).trans hx126_6
              have HR126_6 := Aside0.mk hi126_6
              have HC126_6 := Aside0.mk hl126_6
              clear hi126_6 hl126_6
              replace p126 := eq_true p126
              replace q126 := eq_true q126
              go_wp2_with (first | ((with_reducible refine gate_dst (N := 7) rfl ?_); refine box_event ?hg (N := 7) ?hd (cs := #[.string (⟨#[]⟩ : ByteArray), .int .i64 0, .int .i64 0, .int .i64 0, .bool false, .bool false, .slice none 0 0]) (t := 29) ?hr ?_; (case hd => rfl); (case hg => rfl); (case hr => first | (go_simp; done) | (go_simp; rfl)); intro gb127 hg w21 hbox hb; have n0_ := Aside0.mk (blk_below (g := gb124) (o := .cells #[.slice (some ad126) l0_0.length c0_0] 24 (0, 0)) (by (with_reducible repeat (first | refine blk_drewN ?_ _ | refine blk_drew ?_ | refine blk_alloc ?_ _)); exact BK124.out) hb); have n1_ := Aside0.mk (blk_below (g := gb125) (o := .cells #[.string x126000_1, .int .i64 x126001_1, .int .i64 x126002_1, .int .i64 x126003_1, .bool x126004_1, .bool x126005_1, .slice none 0 0] 29 (0, 0)) (by (with_reducible repeat (first | refine blk_drewN ?_ _ | refine blk_drew ?_ | refine blk_alloc ?_ _)); exact BK125.out) hb); have n2_ := Aside0.mk (below_step (by repeat (first | (with_reducible first | exact HB.out | apply below_alloc | apply pw_below_drewN | apply below_drew1 | refine below_set ?_ GE124.out | refine below_set ?_ GE125.out) | exact HB.out)) hb); have n3_ := Aside0.mk (hbox); have n4_ := Aside0.mk ((by rw [hg]; exact (below_size (by repeat (first | (with_reducible first | exact HB.out | apply below_alloc | apply pw_below_drewN | apply below_drew1 | refine below_set ?_ GE124.out | refine below_set ?_ GE125.out) | exact HB.out))) : w.heap.size ≤ gb127)); have n5_ := Aside0.mk ((by rw [hg]; exact (below_size (by repeat (first | (with_reducible first | exact HB.out | apply below_alloc | apply pw_below_drewN | apply below_drew1 | refine below_set ?_ GE124.out | refine below_set ?_ GE125.out) | exact HB.out))) : w.heap.size ≤ gb127)); have n6_ := Aside0.mk ((by rw [hg]; exact Nat.ne_of_lt (blk_lt (g := gb124) (o := .cells #[.slice (some ad126) l0_0.length c0_0] 24 (0, 0)) (by (with_reducible repeat (first | refine blk_drewN ?_ _ | refine blk_drew ?_ | refine blk_alloc ?_ _)); exact BK124.out)) : gb124 ≠ gb127)); have n7_ := Aside0.mk ((by rw [hg]; exact Nat.ne_of_gt (blk_lt (g := gb124) (o := .cells #[.slice (some ad126) l0_0.length c0_0] 24 (0, 0)) (by (with_reducible repeat (first | refine blk_drewN ?_ _ | refine blk_drew ?_ | refine blk_alloc ?_ _)); exact BK124.out)) : gb127 ≠ gb124)); have n8_ := Aside0.mk ((by rw [hg]; exact Nat.ne_of_lt (blk_lt (g := gb125) (o := .cells #[.string x126000_1, .int .i64 x126001_1, .int .i64 x126002_1, .int .i64 x126003_1, .bool x126004_1, .bool x126005_1, .slice none 0 0] 29 (0, 0)) (by (with_reducible repeat (first | refine blk_drewN ?_ _ | refine blk_drew ?_ | refine blk_alloc ?_ _)); exact BK125.out)) : gb125 ≠ gb127)); have n9_ := Aside0.mk ((by rw [hg]; exact Nat.ne_of_gt (blk_lt (g := gb125) (o := .cells #[.string x126000_1, .int .i64 x126001_1, .int .i64 x126002_1, .int .i64 x126003_1, .bool x126004_1, .bool x126005_1, .slice none 0 0] 29 (0, 0)) (by (with_reducible repeat (first | refine blk_drewN ?_ _ | refine blk_drew ?_ | refine blk_alloc ?_ _)); exact BK125.out)) : gb127 ≠ gb125)); clear BK124; clear BK125; clear HB; have BK124 := n0_; have BK125 := n1_; have HB := n2_; have BK127 := n3_; have GW127 := n4_; have GE127 := n5_; have NB124_127 := n6_; have NB127_124 := n7_; have NB125_127 := n8_; have NB127_125 := n9_; clear n0_ n1_ n2_ n3_ n4_ n5_ n6_ n7_ n8_ n9_; clear hb hbox hg; have hnb22 := NB127_124.out; have hnc22 := NB124_127.out; have hnb23 := NB127_125.out; have hnc23 := NB125_127.out; have hcz24_0 : w21.cell? ⟨gb127, 0, none⟩ = some (.string (⟨#[]⟩ : ByteArray)) := (blk_cell BK127.out 0).trans rfl; have hcz24_1 : w21.cell? ⟨gb127, 1, none⟩ = some (.int .i64 0) := (blk_cell BK127.out 1).trans rfl; have hcz24_2 : w21.cell? ⟨gb127, 2, none⟩ = some (.int .i64 0) := (blk_cell BK127.out 2).trans rfl; have hcz24_3 : w21.cell? ⟨gb127, 3, none⟩ = some (.int .i64 0) := (blk_cell BK127.out 3).trans rfl; have hcz24_4 : w21.cell? ⟨gb127, 4, none⟩ = some (.bool false) := (blk_cell BK127.out 4).trans rfl; have hcz24_5 : w21.cell? ⟨gb127, 5, none⟩ = some (.bool false) := (blk_cell BK127.out 5).trans rfl; have hcz24_6 : w21.cell? ⟨gb127, 6, none⟩ = some (.slice none 0 0) := (blk_cell BK127.out 6).trans rfl; have hfz24_0 := blk_frozen BK127.out 0; have hfz24_1 := blk_frozen BK127.out 1; have hfz24_2 := blk_frozen BK127.out 2; have hfz24_3 := blk_frozen BK127.out 3; have hfz24_4 := blk_frozen BK127.out 4; have hfz24_5 := blk_frozen BK127.out 5; have hfz24_6 := blk_frozen BK127.out 6))
              go_roundg k1
              case measure => have := HK1.out; omega
              case rel => exact ⟨(wrap64 (x11_1 + 1)), (x126000_1), (x126001_1), (x126002_1), (x126003_1), (x126004_1), (x126005_1), (by first | rfl | (simp; done) | (simp [*]; done)), H', ⟨by have := HK1.out; omega⟩, ⟨by (with_reducible repeat (first | refine blk_drewN ?_ _ | refine blk_drew ?_ | refine blk_alloc ?_ _)); refine blk_far ?_ NB124_127.out _; (with_reducible repeat (first | refine blk_drewN ?_ _ | refine blk_drew ?_ | refine blk_alloc ?_ _)); refine blk_far ?_ NB124_127.out _; (with_reducible repeat (first | refine blk_drewN ?_ _ | refine blk_drew ?_ | refine blk_alloc ?_ _)); refine blk_far ?_ NB124_127.out _; (with_reducible repeat (first | refine blk_drewN ?_ _ | refine blk_drew ?_ | refine blk_alloc ?_ _)); refine blk_far ?_ NB124_127.out _; (with_reducible repeat (first | refine blk_drewN ?_ _ | refine blk_drew ?_ | refine blk_alloc ?_ _)); refine blk_far ?_ NB124_127.out _; (with_reducible repeat (first | refine blk_drewN ?_ _ | refine blk_drew ?_ | refine blk_alloc ?_ _)); refine blk_far ?_ NB124_127.out _; (with_reducible repeat (first | refine blk_drewN ?_ _ | refine blk_drew ?_ | refine blk_alloc ?_ _)); refine blk_far ?_ NB124_127.out _; (with_reducible repeat (first | refine blk_drewN ?_ _ | refine blk_drew ?_ | refine blk_alloc ?_ _)); exact BK124.out⟩, ⟨by (with_reducible repeat (first | refine blk_drewN ?_ _ | refine blk_drew ?_ | refine blk_alloc ?_ _)); refine blk_far ?_ NB125_127.out _; (with_reducible repeat (first | refine blk_drewN ?_ _ | refine blk_drew ?_ | refine blk_alloc ?_ _)); refine blk_far ?_ NB125_127.out _; (with_reducible repeat (first | refine blk_drewN ?_ _ | refine blk_drew ?_ | refine blk_alloc ?_ _)); refine blk_far ?_ NB125_127.out _; (with_reducible repeat (first | refine blk_drewN ?_ _ | refine blk_drew ?_ | refine blk_alloc ?_ _)); refine blk_far ?_ NB125_127.out _; (with_reducible repeat (first | refine blk_drewN ?_ _ | refine blk_drew ?_ | refine blk_alloc ?_ _)); refine blk_far ?_ NB125_127.out _; (with_reducible repeat (first | refine blk_drewN ?_ _ | refine blk_drew ?_ | refine blk_alloc ?_ _)); refine blk_far ?_ NB125_127.out _; (with_reducible repeat (first | refine blk_drewN ?_ _ | refine blk_drew ?_ | refine blk_alloc ?_ _)); refine blk_far ?_ NB125_127.out _; (with_reducible repeat (first | refine blk_drewN ?_ _ | refine blk_drew ?_ | refine blk_alloc ?_ _)); exact BK125.out⟩, ⟨by repeat (first | (with_reducible first | exact HB.out | apply below_alloc | apply pw_below_drewN | apply below_drew1 | refine below_set ?_ GE124.out | refine below_set ?_ GE125.out | refine below_set ?_ GE127.out) | exact HB.out)⟩⟩
          · rw [if_neg c9] at H
            exact absurd H (by simp)
        · rw [if_neg c8] at H
          exact absurd H (by simp)
      · rw [if_neg c7] at H
        have c7b0 : decide (x11_1 < (l0_0.length : Int)) = false := decide_eq_false c7
        clear c7
        simp only [Option.some.injEq, Prod.mk.injEq] at H
        obtain ⟨rfl, rfl, rfl, rfl, rfl, rfl, rfl, rfl⟩ := H
        have hnb25 := NB125_124.out
        have hnc25 := NB124_125.out
        have hcz26_0 : wr.cell? ⟨gb125, 0, none⟩ = some (.string x126000_1) := (blk_cell BK125.out 0).trans rfl
        have hcz26_1 : wr.cell? ⟨gb125, 1, none⟩ = some (.int .i64 x126001_1) := (blk_cell BK125.out 1).trans rfl
        have hcz26_2 : wr.cell? ⟨gb125, 2, none⟩ = some (.int .i64 x126002_1) := (blk_cell BK125.out 2).trans rfl
        have hcz26_3 : wr.cell? ⟨gb125, 3, none⟩ = some (.int .i64 x126003_1) := (blk_cell BK125.out 3).trans rfl
        have hcz26_4 : wr.cell? ⟨gb125, 4, none⟩ = some (.bool x126004_1) := (blk_cell BK125.out 4).trans rfl
        have hcz26_5 : wr.cell? ⟨gb125, 5, none⟩ = some (.bool x126005_1) := (blk_cell BK125.out 5).trans rfl
        have hcz26_6 : wr.cell? ⟨gb125, 6, none⟩ = some (.slice none 0 0) := (blk_cell BK125.out 6).trans rfl
        have hfz26_0 := blk_frozen BK125.out 0
        have hfz26_1 := blk_frozen BK125.out 1
        have hfz26_2 := blk_frozen BK125.out 2
        have hfz26_3 := blk_frozen BK125.out 3
        have hfz26_4 := blk_frozen BK125.out 4
        have hfz26_5 := blk_frozen BK125.out 5
        have hfz26_6 := blk_frozen BK125.out 6
        go_wp2
        refine bodyPost_ret (results_ct rfl _ _ gb125 29 #[.string (⟨#[]⟩ : ByteArray), .int .i64 0, .int .i64 0, .int .i64 0, .bool false, .bool false, .slice none 0 0] (0, 0) _ rfl (by (with_reducible repeat (first | refine blk_drewN ?_ _ | refine blk_drew ?_ | refine blk_alloc ?_ _)); refine blk_put (cs := #[.string (⟨#[]⟩ : ByteArray), .int .i64 0, .int .i64 0, .int .i64 0, .bool false, .bool false, .slice none 0 0]) ?_ 6 _ rfl; (with_reducible repeat (first | refine blk_drewN ?_ _ | refine blk_drew ?_ | refine blk_alloc ?_ _)); refine blk_put (cs := #[.string (⟨#[]⟩ : ByteArray), .int .i64 0, .int .i64 0, .int .i64 0, .bool false, .bool x126005_1, .slice none 0 0]) ?_ 5 _ rfl; (with_reducible repeat (first | refine blk_drewN ?_ _ | refine blk_drew ?_ | refine blk_alloc ?_ _)); refine blk_put (cs := #[.string (⟨#[]⟩ : ByteArray), .int .i64 0, .int .i64 0, .int .i64 0, .bool x126004_1, .bool x126005_1, .slice none 0 0]) ?_ 4 _ rfl; (with_reducible repeat (first | refine blk_drewN ?_ _ | refine blk_drew ?_ | refine blk_alloc ?_ _)); refine blk_put (cs := #[.string (⟨#[]⟩ : ByteArray), .int .i64 0, .int .i64 0, .int .i64 x126003_1, .bool x126004_1, .bool x126005_1, .slice none 0 0]) ?_ 3 _ rfl; (with_reducible repeat (first | refine blk_drewN ?_ _ | refine blk_drew ?_ | refine blk_alloc ?_ _)); refine blk_put (cs := #[.string (⟨#[]⟩ : ByteArray), .int .i64 0, .int .i64 x126002_1, .int .i64 x126003_1, .bool x126004_1, .bool x126005_1, .slice none 0 0]) ?_ 2 _ rfl; (with_reducible repeat (first | refine blk_drewN ?_ _ | refine blk_drew ?_ | refine blk_alloc ?_ _)); refine blk_put (cs := #[.string (⟨#[]⟩ : ByteArray), .int .i64 x126001_1, .int .i64 x126002_1, .int .i64 x126003_1, .bool x126004_1, .bool x126005_1, .slice none 0 0]) ?_ 1 _ rfl; (with_reducible repeat (first | refine blk_drewN ?_ _ | refine blk_drew ?_ | refine blk_alloc ?_ _)); refine blk_put (cs := #[.string x126000_1, .int .i64 x126001_1, .int .i64 x126002_1, .int .i64 x126003_1, .bool x126004_1, .bool x126005_1, .slice none 0 0]) ?_ 0 _ rfl; (with_reducible repeat (first | refine blk_drewN ?_ _ | refine blk_drew ?_ | refine blk_alloc ?_ _)); exact BK125.out) Tryd.underlying29 rfl (by kernel_rfl)) rfl ?_
        exact ⟨_, by first | rfl | (simp [errW_none, errW_some] <;> rfl) | (simp [*, errW_none, errW_some] <;> rfl), by first | exact Kd.R_nil _ _ _ _ _ | exact Kd.N_nil _ _ _ _ _ | exact Kd.V_nil _ _ _ _ _ | exact Kd.Q_nil _ _ _ _ _ | exact Kd.S_nil _ _ _ _ _, by repeat (first | (with_reducible first | exact HB.out | apply below_alloc | apply pw_below_drewN | apply below_drew1 | refine below_set ?_ GE124.out | refine below_set ?_ GE125.out) | exact HB.out)⟩
end Go.Proofs.YtcoaajkhfgakgaaDoor.Pr
end

section
namespace Go.Proofs.YtcoaajkhfgakgaaDoor.Pr
open Go.RowKit Go.Proofs.YtcoaajkhfgakgaaDoorW.PrintWords Go.Proofs.YtcoaajkhfgakgaaDoorW.PrintLast Go.Proofs.YtcoaajkhfgakgaaDoorW.PrintMore
set_option linter.unusedVariables false
set_option linter.unusedSimpArgs false
theorem infoSite : (Tryd.prog.info? 29).map (fun i => (i.zero, i.size, i.bytes)) = some (some (.agg #[(.string ⟨#[]⟩), (.int .i64 0), (.int .i64 0), (.int .i64 0), (.bool false), (.bool false), (.slice none 0 0)]), 7, 72) := by kernel_rfl
def findS (a : ByteArray) (l : List S29) : S29 × Bool :=
  match l.find? (fun x => decide (x.f0 = a)) with
  | some x => (x, true)
  | none => (z29, false)
theorem rd_at (l : List S29) (i : Nat) (h : i < l.length) : rd_T29 l (i : Int) = l[i] := by
  unfold rd_T29
  rw [show ((i : Int)).toNat = i from by simp, List.getD_eq_getElem?_getD, List.getElem?_eq_getElem h]
  rfl
theorem find_of_l (a : ByteArray) (l : List S29) (hl : l.length ≤ 274877906944) (hh : ∀ x ∈ l, x.f6.length ≤ 8796093022208) : ∀ (k i : Nat), i ≤ l.length → l.length - i < k →
    conf_Config_Find.l0 k a l (l.length : Int) (i : Int) = some ((findS a (l.drop i)).1.f0, (findS a (l.drop i)).1.f1, (findS a (l.drop i)).1.f2, (findS a (l.drop i)).1.f3, (findS a (l.drop i)).1.f4, (findS a (l.drop i)).1.f5, (findS a (l.drop i)).1.f6, (findS a (l.drop i)).2)
  | 0, i, _, h => by omega
  | k + 1, i, h1, h2 => by
    unfold conf_Config_Find.l0
    by_cases hlt : i < l.length
    · have hz : (i : Int) < (l.length : Int) := by omega
      rw [if_pos hz, if_pos (by omega), if_pos hz, rd_at l i hlt, List.drop_eq_getElem_cons hlt]
      by_cases he : l[i].f0 = a
      · have e1 : findS a (l[i] :: l.drop (i + 1)) = (l[i], true) := by
          unfold findS
          rw [List.find?_cons_of_pos (by simp [he])]
        rw [if_pos (by rw [he]), e1]
        have hx := hh l[i] (List.getElem_mem hlt)
        simp only [slices_Clone_string_string.f, hx, if_true, Option.bind_some]
      · have e1 : findS a (l[i] :: l.drop (i + 1)) = findS a (l.drop (i + 1)) := by
          unfold findS
          rw [List.find?_cons_of_neg (by simp [he])]
        rw [if_neg (fun e => he (toList_inj.1 e)), e1]
        have hw : wrap64 ((i : Int) + 1) = ((i + 1 : Nat) : Int) := by unfold wrap64; omega
        rw [hw]
        exact find_of_l a l hl hh k (i + 1) (by omega) (by omega)
    · have hz : ¬ (i : Int) < (l.length : Int) := by omega
      rw [if_neg hz, List.drop_eq_nil_of_le (by omega)]
      rfl
theorem find_of (a : ByteArray) (l : List S29) (hl : l.length ≤ 274877906944) (hh : ∀ x ∈ l, x.f6.length ≤ 8796093022208) (k : Nat) (hk : l.length < k) :
    conf_Config_Find.f k l a = some ((findS a l).1.f0, (findS a l).1.f1, (findS a l).1.f2, (findS a l).1.f3, (findS a l).1.f4, (findS a l).1.f5, (findS a l).1.f6, (findS a l).2) :=
  find_of_l a l hl hh k 0 (Nat.zero_le _) (by omega)
def rulesF : Nat → St → Sv → List ByteArray → Option (St × Sv)
  | 0, _, _, _ => none
  | f + 1, st, s, seen =>
    if st.code = 0 then
      if nextS st = ⟨#[125]⟩ then some (st, s)
      else (ruleF f st s seen).bind fun r => rulesF f r.1 r.2.1 r.2.2
    else some (st, s)
def mkSite (s : Sv) : S29 := ⟨s.host, s.origin, s.mn, s.mx, s.q, s.kp, s.hs⟩
def headS (st : St) (sites : List S29) : St := mustS (if nextS st = ⟨#[115, 105, 116, 101]⟩ ∧ sites.length = 8 then failS st 32 else st) ⟨#[115, 105, 116, 101]⟩
def hostS (st : St) (sites : List S29) : St :=
  if (findS (nextS st) sites).2 = true then failS (if st.code = 0 ∧ ¬ ((hostV (nextS st)).2 = 0 ∧ (hostV (nextS st)).1 = nextS st) then failS st 30 else st) 31
  else (if st.code = 0 ∧ ¬ ((hostV (nextS st)).2 = 0 ∧ (hostV (nextS st)).1 = nextS st) then failS st 30 else st)
def siteF (k : Nat) (st : St) (sites : List S29) : Option (St × List S29) :=
  (rulesF k (mustS (takeS (hostS (headS st sites) sites)) ⟨#[123]⟩) ⟨nextS (headS st sites), 1, 0, 3600, true, true, []⟩ []).map fun r => (mustS r.1 ⟨#[125]⟩, sites ++ [mkSite r.2])
structure SI (w0 W : World) (g gc : Nat) (st : St) (sites : List S29) (v : Value) : Prop where
  rd : IsRd w0 W g st
  bel : Below w0.heap.size w0 W
  box : W.heap[gc]? = some (.cells #[v] 24 (0, 0))
  own : Kd.R k29 29 W w0.heap.size (fun k => k ≠ g ∧ k ≠ gc) v sites
  small : ∀ x ∈ st.l, x.s.size ≤ 274877906944
  heads : ∀ x ∈ sites, x.f6.length ≤ 4
section
variable {w0 W W' : World} {g gc : Nat} {st st' : St} {sites : List S29} {v : Value}
theorem SI.reader (h : SI w0 W g gc st sites v) (hne : gc ≠ g) (h1 : IsRd w0 W' g st') (h2 : Below w0.heap.size w0 W') (h3 : KeepBut W W' g none) (h4 : ∀ x ∈ st'.l, x ∈ st.l) : SI w0 W' g gc st' sites v :=
  ⟨h1, h2, (h3.2 gc (blk_lt h.box) hne (by simp)).trans h.box, Kd.R_keep h.own h3 (fun k hk => hk.1), fun x hx => h.small x (h4 x hx), h.heads⟩
end
end Go.Proofs.YtcoaajkhfgakgaaDoor.Pr
end

section
namespace Go.Proofs.YtcoaajkhfgakgaaDoor.Pr
open Go.RowKit Go.Proofs.YtcoaajkhfgakgaaDoorW.PrintWords Go.Proofs.YtcoaajkhfgakgaaDoorW.PrintLast Go.Proofs.YtcoaajkhfgakgaaDoorW.PrintMore
set_option linter.unusedVariables false
set_option linter.unusedSimpArgs false
def smallSite (x : S29) : Bool := decide (x.f0.size ≤ 100) && decide (x.f6.length ≤ 10) && x.f6.all fun h => decide (h.size ≤ 100)
def smallB (l : List S29) : Bool := l.all smallSite && decide (l.length ≤ 12)
theorem rd_str (l : List ByteArray) (i : Nat) (h : i < l.length) : rdOf ByteArray.empty l (i : Int) = l[i] := by
  unfold rdOf
  rw [show ((i : Int)).toNat = i from by simp, List.getD_eq_getElem?_getD, List.getElem?_eq_getElem h]
  rfl
theorem small_l1 (l : List S29) (n j : Int) (hs : List ByteArray) (hh : hs.length ≤ 8796093022208) (m : List S29) : ∀ (d i k : Nat), hs.length - i = d → i ≤ hs.length →
    pantrymade_SmallSites.l1 (k + d + 1) l n j hs (hs.length : Int) (i : Int) m = if (hs.drop i).all (fun h => decide (h.size ≤ 100)) = true then pantrymade_SmallSites.l0 k l n (wrap64 (j + 1)) m else some false
  | 0, i, k, hd, hi => by
    have : i = hs.length := by omega
    subst this
    unfold pantrymade_SmallSites.l1
    rw [if_neg (by omega), List.drop_eq_nil_of_le (Nat.le_refl _)]
    simp
  | d + 1, i, k, hd, hi => by
    have hlt : i < hs.length := by omega
    unfold pantrymade_SmallSites.l1
    rw [if_pos (by omega), if_pos (by omega), if_pos (by omega), rd_str hs i hlt, List.drop_eq_getElem_cons hlt]
    by_cases hx : hs[i].size ≤ 100
    · rw [if_neg (by omega), List.all_cons, decide_eq_true hx, Bool.true_and]
      have hw : wrap64 ((i : Int) + 1) = ((i + 1 : Nat) : Int) := by unfold wrap64; omega
      rw [hw]
      exact small_l1 l n j hs hh m d (i + 1) k (by omega) (by omega)
    · rw [if_pos (by omega), List.all_cons, decide_eq_false hx, Bool.false_and]
      simp
theorem small_l0 (l : List S29) (hl : l.length ≤ 8796093022208) (hh : ∀ x ∈ l, x.f6.length ≤ 8796093022208) : ∀ (d i k : Nat), l.length - i = d → i ≤ l.length → 13 * d < k →
    pantrymade_SmallSites.l0 k l (l.length : Int) (i : Int) l = some ((l.drop i).all smallSite && decide (l.length ≤ 12))
  | _, _, 0, _, _, hk => by omega
  | 0, i, k + 1, hd, hi, hk => by
    have : i = l.length := by omega
    subst this
    unfold pantrymade_SmallSites.l0
    rw [if_neg (by omega), List.drop_eq_nil_of_le (Nat.le_refl _)]
    rw [List.all_nil, Bool.true_and]
    exact congrArg some (decide_eq_decide.2 (by omega))
  | d + 1, i, k + 1, hd, hi, hk => by
    have hlt : i < l.length := by omega
    unfold pantrymade_SmallSites.l0
    rw [if_pos (by omega), if_pos (by omega), if_pos (by omega), rd_at l i hlt, List.drop_eq_getElem_cons hlt, List.all_cons]
    obtain ⟨k, rfl⟩ : ∃ k', k = k' + 1 := ⟨k - 1, by omega⟩
    by_cases h1 : l[i].f0.size ≤ 100
    · rw [if_neg (by omega)]
      unfold pantrymade_SmallSites.j1
      by_cases h2 : l[i].f6.length ≤ 10
      · rw [if_neg (by simp; omega)]
        obtain ⟨k2, rfl⟩ : ∃ k2, k = k2 + (l[i].f6.length - 0) + 1 := ⟨k - l[i].f6.length - 1, by omega⟩
        have hx := small_l1 l (l.length : Int) (i : Int) l[i].f6 (hh _ (List.getElem_mem hlt)) l (l[i].f6.length - 0) 0 k2 rfl (Nat.zero_le _)
        rw [show ((0 : Nat) : Int) = 0 from rfl] at hx
        rw [hx, List.drop_zero]
        have hw : wrap64 ((i : Int) + 1) = ((i + 1 : Nat) : Int) := by unfold wrap64; omega
        by_cases h3 : l[i].f6.all (fun h => decide (h.size ≤ 100)) = true
        · rw [if_pos h3, hw, small_l0 l hl hh d (i + 1) k2 (by omega) (by omega) (by omega)]
          simp only [smallSite, h1, h2, h3, decide_true, Bool.true_and, Bool.and_true]
        · rw [if_neg h3]
          simp only [smallSite, Bool.eq_false_iff.2 h3, Bool.and_false, Bool.false_and]
      · rw [if_pos (by simp; omega)]
        simp only [smallSite, decide_eq_false h2, Bool.and_false, Bool.false_and]
    · rw [if_pos (by omega)]
      unfold pantrymade_SmallSites.j1
      rw [if_pos rfl]
      simp only [smallSite, decide_eq_false h1, Bool.false_and]
theorem small_of (l : List S29) (hl : l.length ≤ 8796093022208) (hh : ∀ x ∈ l, x.f6.length ≤ 8796093022208) (k : Nat) (hk : 13 * l.length < k) : pantrymade_SmallSites.f k l = some (smallB l) :=
  small_l0 l hl hh l.length 0 k rfl (Nat.zero_le _) hk
def refSite (x : S29) : S38 := ⟨x.f0, x.f1, x.f2, x.f3, x.f4, x.f5, x.f6⟩
theorem made_l0 (l : List S29) (hl : l.length ≤ 1099511627776) : ∀ (d i k : Nat), l.length - i = d → i ≤ l.length → d < k →
    pantrymade_Config.l0 k l (l.length : Int) (i : Int) ((l.take i).map refSite) = some (l.map refSite)
  | _, _, 0, _, _, hk => by omega
  | 0, i, k + 1, hd, hi, hk => by
    have : i = l.length := by omega
    subst this
    unfold pantrymade_Config.l0
    rw [if_neg (by omega), List.take_length]
  | d + 1, i, k + 1, hd, hi, hk => by
    have hlt : i < l.length := by omega
    unfold pantrymade_Config.l0
    rw [if_pos (by omega), if_pos (by omega), if_pos (by omega), rd_at l i hlt]
    simp only [pantrymade_Site.f, Option.bind_some]
    rw [if_pos (by simp; omega)]
    have hw : wrap64 ((i : Int) + 1) = ((i + 1 : Nat) : Int) := by unfold wrap64; omega
    have ht : (l.take i).map refSite ++ [(⟨l[i].f0, l[i].f1, l[i].f2, l[i].f3, l[i].f4, l[i].f5, l[i].f6⟩ : S38)] = (l.take (i + 1)).map refSite := by
      rw [List.take_succ_eq_append_getElem hlt, List.map_append]
      rfl
    rw [hw, ht]
    exact made_l0 l hl d (i + 1) k (by omega) (by omega) (by omega)
theorem made_of (l : List S29) (hl : l.length ≤ 1099511627776) (k : Nat) (hk : l.length < k) : pantrymade_Config.f k l = some (l.map refSite) := by
  exact made_l0 l hl l.length 0 k rfl (Nat.zero_le _) hk
theorem alike_l0 (a0 : ByteArray) (a1 a2 a3 : Int) (a4 a5 : Bool) (hs : List ByteArray) (hh : hs.length ≤ 8796093022208) : ∀ (d i k : Nat), hs.length - i = d → i ≤ hs.length → d < k →
    pantryref09_Alike.l0 k (i : Int) a0 a1 a2 a3 a4 a5 hs a0 a1 a2 a3 a4 a5 hs = some true
  | _, _, 0, _, _, hk => by omega
  | 0, i, k + 1, hd, hi, hk => by
    unfold pantryref09_Alike.l0
    rw [if_neg (by omega)]
  | d + 1, i, k + 1, hd, hi, hk => by
    unfold pantryref09_Alike.l0
    rw [if_pos (by omega), if_pos (by omega), if_pos (by omega), if_pos rfl]
    have hw : wrap64 ((i : Int) + 1) = ((i + 1 : Nat) : Int) := by unfold wrap64; omega
    rw [hw]
    exact alike_l0 a0 a1 a2 a3 a4 a5 hs hh d (i + 1) k (by omega) (by omega) (by omega)
theorem alike_refl (a0 : ByteArray) (a1 a2 a3 : Int) (a4 a5 : Bool) (hs : List ByteArray) (hh : hs.length ≤ 8796093022208) (k : Nat) (hk : hs.length + 1 < k) : pantryref09_Alike.f k a0 a1 a2 a3 a4 a5 hs a0 a1 a2 a3 a4 a5 hs = some true := by
  unfold pantryref09_Alike.f
  obtain ⟨k, rfl⟩ : ∃ k', k = k' + 1 := ⟨k - 1, by omega⟩
  simp only [if_true, bne_self_eq_false, Bool.false_eq_true, if_false, pantryref09_Alike.j0]
  exact alike_l0 a0 a1 a2 a3 a4 a5 hs hh hs.length 0 k rfl (Nat.zero_le _) (by omega)
end Go.Proofs.YtcoaajkhfgakgaaDoor.Pr
end

section
namespace Go.Proofs.YtcoaajkhfgakgaaDoor.Pr
open Go.RowKit Go.Proofs.YtcoaajkhfgakgaaDoorW.PrintWords Go.Proofs.YtcoaajkhfgakgaaDoorW.PrintLast Go.Proofs.YtcoaajkhfgakgaaDoorW.PrintMore
attribute [local go_sem] max2_int min2_int max_two min_two max_three min_three max_four min_four   -- for this text's walks alone
set_option linter.unusedVariables false
set_option linter.unusedSimpArgs false
def pantryref09_Config_Find.l0 : Nat → ByteArray → Int → List (S38) → Option (Int)
  | 0, _, _, _ => none
  | k + 1, x1, x5, x151000 => if x5 < (x151000.length : Int) then (if 0 ≤ x5 then (if ((rd_T38 x151000 x5).f0).toList = x1.toList then (some x5) else (pantryref09_Config_Find.l0 k x1 (wrap64 (x5 + 1)) x151000)) else (none)) else (some (-1))
def pantryref09_Config_Find.f (k : Nat) (l0_0 : List (S38)) (a1 : ByteArray) : Option (Int) := pantryref09_Config_Find.l0 k a1 0 l0_0
theorem pantryref09_Config_Find.mono_l : ∀ k, (∀ y0 y1 y2, LeO (pantryref09_Config_Find.l0 k y0 y1 y2) (pantryref09_Config_Find.l0 (k + 1) y0 y1 y2))
  | 0 => fun _ _ _ r h => by simp [pantryref09_Config_Find.l0] at h
  | k + 1 => by
    have ih0 := pantryref09_Config_Find.mono_l k
    · intro y0 y1 y2
      unfold pantryref09_Config_Find.l0
      repeat' first
      | (with_reducible exact ih0 _ _ _)
      | (with_reducible exact LeO.refl _)
      | (with_reducible exact LeO.none _)
      | (with_reducible refine LeO.ite ?_ ?_)
      | (with_reducible refine LeO.bind ?_ (fun _ => ?_))
      | exact ih0 _ _ _
      | exact LeO.none _
      | refine LeO.ite ?_ ?_
      | refine LeO.bind ?_ (fun _ => ?_)
theorem pantryref09_Config_Find.mono : ∀ a0 a1 k, LeO (pantryref09_Config_Find.f k a0 a1) (pantryref09_Config_Find.f (k + 1) a0 a1) := by
  intro a0 a1 k
  have ih0 := pantryref09_Config_Find.mono_l k
  unfold pantryref09_Config_Find.f
  repeat' first
      | (with_reducible exact ih0 _ _ _)
      | (with_reducible exact LeO.refl _)
      | (with_reducible exact LeO.none _)
      | (with_reducible refine LeO.ite ?_ ?_)
      | (with_reducible refine LeO.bind ?_ (fun _ => ?_))
      | exact ih0 _ _ _
      | exact LeO.none _
      | refine LeO.ite ?_ ?_
      | refine LeO.bind ?_ (fun _ => ?_)
set_option maxHeartbeats 8000000 in
set_option maxRecDepth 100000 in
theorem pantryref09_Config_Find.calls (k : Nat) (A0_0 : Option Addr) (c0_0 : Nat) (l0_0 : List (S38)) (a1 : ByteArray) (r : Int) (w : World) (hr0_0 : Kd.C k38 w A0_0 l0_0.length l0_0) (hc0_0 : l0_0.length ≤ c0_0) (h : pantryref09_Config_Find.f k l0_0 a1 = some r) :
    Calls Tryd.prog 12 #[.agg #[.slice A0_0 l0_0.length c0_0], .string a1] w fun e w' => e = .returned (.int .i64 r) ∧ Below w.heap.size w w' := by
  have hu34 := Tryd.underlying34
  have HR0_0 := Aside0.mk hr0_0
  have HC0_0 := Aside0.mk hc0_0
  clear hr0_0 hc0_0
  have HB := Aside0.mk (Below.refl w.heap.size w)
  have H : (pantryref09_Config_Find.l0 k a1 0 l0_0) = some r := h
  clear h
  have H' := Aside0.mk H
  clear H
  go_enter Tryd.func12, Tryd.ntmps12
  go_wp2_with (first | ((with_reducible refine gate_dst (N := 2) rfl ?_); refine box_event ?hg (N := 2) ?hd (cs := #[.slice A0_0 l0_0.length c0_0]) (t := 34) ?hr ?_; (case hd => rfl); (case hg => rfl); (case hr => first | (go_simp; done) | (go_simp; rfl)); intro gb150 hg w3 hbox hb; have n0_ := Aside0.mk (below_step (by repeat (first | (with_reducible first | exact HB.out | apply below_alloc | apply pw_below_drewN | apply below_drew1) | exact HB.out)) hb); have n1_ := Aside0.mk (hbox); have n2_ := Aside0.mk ((by rw [hg]; exact (below_size (by repeat (first | (with_reducible first | exact HB.out | apply below_alloc | apply pw_below_drewN | apply below_drew1) | exact HB.out))) : w.heap.size ≤ gb150)); have n3_ := Aside0.mk ((by rw [hg]; exact (below_size (by repeat (first | (with_reducible first | exact HB.out | apply below_alloc | apply pw_below_drewN | apply below_drew1) | exact HB.out))) : w.heap.size ≤ gb150)); clear HB; have HB := n0_; have BK150 := n1_; have GW150 := n2_; have GE150 := n3_; clear n0_ n1_ n2_ n3_; clear hb hbox hg))
  go_loopg [5] k (fun kq v5 w' => ∃ (x5_1 : Int), v5 = .int .i64 x5_1 ∧ Aside0 (pantryref09_Config_Find.l0 kq a1 x5_1 l0_0 = some r) ∧ Aside0 (kq ≤ k) ∧ Aside0 (w'.heap[gb150]? = some (.cells #[(.slice A0_0 l0_0.length c0_0)] 34 (0, 0))) ∧ Aside0 (Below w.heap.size w w'))
  case atStart => exact ⟨(0), (by first | rfl | (simp; done) | (simp [*]; done)), H', ⟨Nat.le_refl _⟩, ⟨by (with_reducible repeat (first | refine blk_drewN ?_ _ | refine blk_drew ?_ | refine blk_alloc ?_ _)); exact BK150.out⟩, ⟨by repeat (first | (with_reducible first | exact HB.out | apply below_alloc | apply pw_below_drewN | apply below_drew1 | refine below_set ?_ GE150.out) | exact HB.out)⟩⟩
  case round =>
    clear H'
    try clear c1
    try clear p2
    obtain ⟨x5_1, rfl, HA, HK1, BK150, HB⟩ := hrel
    cases gk with
    | zero => exact absurd HA.out (by simp [pantryref09_Config_Find.l0])
    | succ k1 =>
      have H := HA.out
      clear HA
      simp only [pantryref09_Config_Find.l0] at H
      by_cases c4 : x5_1 < (l0_0.length : Int)
      · rw [if_pos c4] at H
        have c4b0 : decide (x5_1 < (l0_0.length : Int)) = true := decide_eq_true c4
        clear c4
        by_cases c5 : 0 ≤ x5_1
        · rw [if_pos c5] at H
          have c5b0 : decide (0 ≤ x5_1) = true := decide_eq_true c5
          clear c5
          by_cases c6 : ((rd_T38 l0_0 x5_1).f0).toList = a1.toList
          · rw [if_pos c6] at H
            have c6b0 : (((rd_T38 l0_0 x5_1).f0).toList == a1.toList) = true := beq_iff_eq.mpr c6
            have c6b1 : (((rd_T38 l0_0 x5_1).f0).toList != a1.toList) = false := bne_eq_false_iff_eq.mpr c6
            clear c6
            obtain rfl := Option.some.inj H
            have hcz7_0 : wr.cell? ⟨gb150, 0, none⟩ = some (.slice A0_0 l0_0.length c0_0) := (blk_cell BK150.out 0).trans rfl
            have hfz7_0 := blk_frozen BK150.out 0
            have p151 : 0 ≤ (x5_1 : Int) := of_decide_eq_true (by first | (with_reducible assumption) | assumption)
            have q151 : x5_1 < (l0_0.length : Int) := of_decide_eq_true (by first | (with_reducible assumption) | assumption)
            obtain ⟨ad151, A151_6, c151_6, e151, hx151_0, hx151_1, hx151_2, hx151_3, hx151_4, hx151_5, hx151_6, hl151_6, hi151_6⟩ := at_T38 HR0_0.out x5_1 p151 q151
            cases e151
            replace hx151_0 := (HB.out.cell (World.block_lt_of_cell? w _ hx151_0)).trans hx151_0
            replace hx151_1 := (HB.out.cell (World.block_lt_of_cell? w _ hx151_1)).trans hx151_1
            replace hx151_2 := (HB.out.cell (World.block_lt_of_cell? w _ hx151_2)).trans hx151_2
            replace hx151_3 := (HB.out.cell (World.block_lt_of_cell? w _ hx151_3)).trans hx151_3
            replace hx151_4 := (HB.out.cell (World.block_lt_of_cell? w _ hx151_4)).trans hx151_4
            replace hx151_5 := (HB.out.cell (World.block_lt_of_cell? w _ hx151_5)).trans hx151_5
            replace hx151_6 := (HB.out.cell (World.block_lt_of_cell? w _ hx151_6)).trans hx151_6
            have HR151_6 := Aside0.mk hi151_6
            have HC151_6 := Aside0.mk hl151_6
            clear hi151_6 hl151_6
            replace p151 := eq_true p151
            replace q151 := eq_true q151
            go_wp2
            go_ret
            exact ⟨by first | rfl | (simp [errW_none, errW_some] <;> rfl) | (simp [*, errW_none, errW_some] <;> rfl) | (simp only [ne_nil_bool]; rfl), by repeat (first | (with_reducible first | exact HB.out | apply below_alloc | apply pw_below_drewN | apply below_drew1 | refine below_set ?_ GE150.out) | exact HB.out)⟩
          · rw [if_neg c6] at H
            have c6b0 : (((rd_T38 l0_0 x5_1).f0).toList == a1.toList) = false := beq_eq_false_iff_ne.mpr c6
            have c6b1 : (((rd_T38 l0_0 x5_1).f0).toList != a1.toList) = true := bne_iff_ne.mpr c6
            have H' := Aside0.mk H
            clear H
            have hcz8_0 : wr.cell? ⟨gb150, 0, none⟩ = some (.slice A0_0 l0_0.length c0_0) := (blk_cell BK150.out 0).trans rfl
            have hfz8_0 := blk_frozen BK150.out 0
            have p151 : 0 ≤ (x5_1 : Int) := of_decide_eq_true (by first | (with_reducible assumption) | assumption)
            have q151 : x5_1 < (l0_0.length : Int) := of_decide_eq_true (by first | (with_reducible assumption) | assumption)
            obtain ⟨ad151, A151_6, c151_6, e151, hx151_0, hx151_1, hx151_2, hx151_3, hx151_4, hx151_5, hx151_6, hl151_6, hi151_6⟩ := at_T38 HR0_0.out x5_1 p151 q151
            cases e151
            replace hx151_0 := (HB.out.cell (World.block_lt_of_cell? w _ hx151_0)).trans hx151_0
            replace hx151_1 := (HB.out.cell (World.block_lt_of_cell? w _ hx151_1)).trans hx151_1
            replace hx151_2 := (HB.out.cell (World.block_lt_of_cell? w _ hx151_2)).trans hx151_2
            replace hx151_3 := (HB.out.cell (World.block_lt_of_cell? w _ hx151_3)).trans hx151_3
            replace hx151_4 := (HB.out.cell (World.block_lt_of_cell? w _ hx151_4)).trans hx151_4
            replace hx151_5 := (HB.out.cell (World.block_lt_of_cell? w _ hx151_5)).trans hx151_5
            replace hx151_6 := (HB.out.cell (World.block_lt_of_cell? w _ hx151_6)).trans hx151_6
            have HR151_6 := Aside0.mk hi151_6
            have HC151_6 := Aside0.mk hl151_6
            clear hi151_6 hl151_6
            replace p151 := eq_true p151
            replace q151 := eq_true q151
            go_wp2
            go_roundg k1
            case measure => have := HK1.out; omega
            case rel => exact ⟨(wrap64 (x5_1 + 1)), (by first | rfl | (simp; done) | (simp [*]; done)), H', ⟨by have := HK1.out; omega⟩, ⟨by (with_reducible repeat (first | refine blk_drewN ?_ _ | refine blk_drew ?_ | refine blk_alloc ?_ _)); exact BK150.out⟩, ⟨by repeat (first | (with_reducible first | exact HB.out | apply below_alloc | apply pw_below_drewN | apply below_drew1 | refine below_set ?_ GE150.out) | exact HB.out)⟩⟩
        · rw [if_neg c5] at H
          exact absurd H (by simp)
      · rw [if_neg c4] at H
        have c4b0 : decide (x5_1 < (l0_0.length : Int)) = false := decide_eq_false c4
        clear c4
        obtain rfl := Option.some.inj H
        have hcz9_0 : wr.cell? ⟨gb150, 0, none⟩ = some (.slice A0_0 l0_0.length c0_0) := (blk_cell BK150.out 0).trans rfl
        have hfz9_0 := blk_frozen BK150.out 0
        go_wp2
        go_ret
        exact ⟨by first | rfl | (simp [errW_none, errW_some] <;> rfl) | (simp [*, errW_none, errW_some] <;> rfl) | (simp only [ne_nil_bool]; rfl), by repeat (first | (with_reducible first | exact HB.out | apply below_alloc | apply pw_below_drewN | apply below_drew1 | refine below_set ?_ GE150.out) | exact HB.out)⟩
end Go.Proofs.YtcoaajkhfgakgaaDoor.Pr
end

section
namespace Go.Proofs.YtcoaajkhfgakgaaDoor.Pr
open Go.RowKit Go.Proofs.YtcoaajkhfgakgaaDoorW.PrintWords Go.Proofs.YtcoaajkhfgakgaaDoorW.PrintLast Go.Proofs.YtcoaajkhfgakgaaDoorW.PrintMore
attribute [local go_sem] max2_int min2_int max_two min_two max_three min_three max_four min_four   -- for this text's walks alone
set_option linter.unusedVariables false
set_option linter.unusedSimpArgs false
theorem eqA48 (d : Nat) (w : World) (x0 y0 : Int) (x1 y1 : Int) :
    (Op.equalIn (d + 2) 48 (.agg #[.int .i64 x0, .int .i64 x1]) (.agg #[.int .i64 y0, .int .i64 y1])).run Tryd.prog w = .ok (x0 == y0 && (x1 == y1)) w := by
  refine eqA_of Tryd.underlying48 (by kernel_rfl) ?_
  refine eqf_cons (by rfl) (by go_simp; rfl) (by go_simp; rfl) (by go_simp) ?_
  exact eqf_last (by rfl) (by go_simp; rfl) (by go_simp; rfl) (by go_simp)
end Go.Proofs.YtcoaajkhfgakgaaDoor.Pr
end

section
namespace Go.Proofs.YtcoaajkhfgakgaaDoor.Pr
open Go.RowKit Go.Proofs.YtcoaajkhfgakgaaDoorW.PrintWords Go.Proofs.YtcoaajkhfgakgaaDoorW.PrintLast Go.Proofs.YtcoaajkhfgakgaaDoorW.PrintMore
set_option linter.unusedVariables false
set_option linter.unusedSimpArgs false
structure TI (w0 w1 W : World) (g gs : Nat) (st : St) (host : ByteArray) : Prop where
  rd : IsRd w0 W g st
  bel : Below w0.heap.size w0 W
  keep : KeepBut w1 W g none
  bx : W.heap[gs]? = some (.cells #[.string host, .int .i64 1, .int .i64 0, .int .i64 3600, .bool true, .bool true, .slice none 0 0] 29 (0, 0))
  small : ∀ x ∈ st.l, x.s.size ≤ 274877906944
section
variable {w0 w1 W W' : World} {g gs gc : Nat} {st st' : St} {host : ByteArray} {sites : List S29} {v : Value}
theorem TI.reader (h : TI w0 w1 W g gs st host) (hgs : gs ≠ g) (h1 : IsRd w0 W' g st') (h2 : Below w0.heap.size w0 W') (h3 : KeepBut W W' g none) (h4 : ∀ x ∈ st'.l, x ∈ st.l) : TI w0 w1 W' g gs st' host :=
  ⟨h1, h2, keep_then h.keep h3, (h3.2 gs (blk_lt h.bx) hgs (by simp)).trans h.bx, fun x hx => h.small x (h4 x hx)⟩
theorem TI.below (h : TI w0 w1 W g gs st host) (hb : Below W.heap.size W W') : TI w0 w1 W' g gs st host :=
  ⟨h.rd.below hb, below_then h.bel h.bel.size hb, keep_then h.keep (KeepBut.of_below hb g none), (hb.block gs (blk_lt h.bx)).trans h.bx, h.small⟩
theorem SI.later (h : SI w0 W g gc st sites v) (hne : gc ≠ g) (hk : KeepBut W W' g none) : W'.heap[gc]? = some (.cells #[v] 24 (0, 0)) ∧ Kd.R k29 29 W' w0.heap.size (fun k => k ≠ g ∧ k ≠ gc) v sites :=
  ⟨(hk.2 gc (blk_lt h.box) hne (by simp)).trans h.box, Kd.R_keep h.own hk (fun k hk => hk.1)⟩
theorem SI.app {w0 w1 W W' : World} {g gs gc bm : Nat} {st : St} {s : Sv} {seen : List ByteArray} {sites : List S29} {v v1 v' : Value} {inner : List Value}
    (hR : RI w0 w1 W g gs bm st s seen v1) (L : Lie w0 w1 g gs bm) (hne : gc ≠ g) (hgc : gc < w1.heap.size) (hg0 : w0.heap.size ≤ gc) (hbox : W.heap[gc]? = some (.cells #[v] 24 (0, 0)))
    (h0 : ∀ k, v.ownBlock = some k → k ≠ g ∧ k ≠ gc) (hbase : ∀ k, v.ownBlock = some k → w0.heap.size ≤ k) (hlt : ∀ k, v.ownBlock = some k → k < w1.heap.size)
    (hreps : Reps (k29.M W w0.heap.size (fun k => (k ≠ g ∧ k ≠ gc) ∧ some k ≠ v.ownBlock)) k29.sz sites inner) (hh : ∀ x ∈ sites, x.f6.length ≤ 4) (hgrow : W.grownBy W' v.ownBlock)
    (hown : W'.ownsRow w0.heap.size 29 7 v' (sites.length + 1) (inner ++ [.string s.host, .int .i64 s.origin, .int .i64 s.mn, .int .i64 s.mx, .bool s.q, .bool s.kp, v1]))
    (hat : v'.ownBlock = v.ownBlock ∨ ∃ b, v'.ownBlock = some b ∧ W.heap.size ≤ b) : SI w0 (W'.setCell ⟨gc, 0, none⟩ v') g gc st (sites ++ [mkSite s]) v' := by
  have l1 := L.hg
  have l5 := L.hw
  have l6 := hR.keep.1
  have hog : some g ≠ v.ownBlock := fun e => (h0 g e.symm).1 rfl
  have hogc : some gc ≠ v.ownBlock := fun e => (h0 gc e.symm).2 rfl
  have hp : k29.M W w0.heap.size (fun k => v1.ownBlock = some k) (mkSite s) [.string s.host, .int .i64 s.origin, .int .i64 s.mn, .int .i64 s.mx, .bool s.q, .bool s.kp, v1] :=
    k29_mkM W w0.heap.size (fun k => v1.ownBlock = some k) (mkSite s) (strs_R (own_weaken hR.own l5))
  have hokp : ∀ k, v1.ownBlock = some k → (k ≠ g ∧ k ≠ gc) ∧ some k ≠ v.ownBlock := fun k hk => by
    have hb := own_base hR.own k hk
    refine ⟨⟨by omega, by omega⟩, fun e => ?_⟩
    have := hlt k e.symm
    omega
  have hr := Kd.R_appended (ok := fun k => k ≠ g ∧ k ≠ gc) h0 hreps hp hokp (fun k hk => ⟨by omega, by omega⟩) hown hgrow hat
  refine ⟨?_, below_set (hR.bel.grown hgrow hR.bel.size hbase) hg0, blk_put ((hgrow.block gc (by omega) hogc).trans hbox) 0 _ rfl, Kd.R_far hr (p := ⟨gc, 0, none⟩) (fun k hk => hk.2) _, hR.small, fun x hx => ?_⟩
  · obtain ⟨A, c, h1, h2⟩ := hR.rd
    exact ⟨A, c, (Below.heap_setCell W' _ _ g (fun e => hne e.symm)).trans ((hgrow.block g (by omega) hog).trans h1), h2⟩
  · rcases List.mem_append.1 hx with hx | hx
    · exact hh x hx
    · rw [List.mem_singleton.1 hx]
      exact hR.len
end
set_option maxRecDepth 100000 in
set_option maxHeartbeats 16000000 in
theorem reader_site_calls (k : Nat) (w0 w : World) (g gc : Nat) (st : St) (sites : List S29) (v : Value) (st' : St) (sites' : List S29)
    (h : SI w0 w g gc st sites v) (hne : gc ≠ g) (h0 : w0.heap.size ≤ g) (hgc : w0.heap.size ≤ gc) (hG : GL w0) (hn : sites.length < 1048576) (hk : k ≤ 274877906944) (hf : siteF k st sites = some (st', sites')) :
    Calls Tryd.prog 23 #[.pointer (some ⟨g, 0, none⟩), .pointer (some ⟨gc, 0, none⟩)] w fun e w' => e = .returned (.tuple #[]) ∧ ∃ v', SI w0 w' g gc st' sites' v' := by
  have hu := Tryd.underlying64
  have hu2 := Tryd.underlying48
  have hu3 := Tryd.underlying29
  have hu4 := Tryd.underlying24
  have hmm := @run_makeMap Tryd.prog
  obtain ⟨A, c, hv, hlc, hC⟩ := Kd.R_reads h.own
  subst hv
  have HI := Aside0.mk h
  have HN := Aside0.mk (reader_next_calls w0 w g st h.rd h.bel)
  have c0 : w.cell? ⟨gc, 0, none⟩ = some (.slice A sites.length c) := (blk_cell h.box 0).trans rfl
  have HF := Aside0.mk hf
  have HGL := Aside0.mk hG
  have HST : Aside0 (headS st sites = mustS (if nextS st = ⟨#[115, 105, 116, 101]⟩ ∧ sites.length = 8 then failS st 32 else st) ⟨#[115, 105, 116, 101]⟩) := ⟨rfl⟩
  clear h hG hf hC
  go_enter Tryd.func23, Tryd.ntmps23
  go_upto_region 0 with fail
  go_cut [20] (fun v20 wc => ∃ b, v20 = .bool b ∧ Aside0 (b = (decide (nextS st = ⟨#[115, 105, 116, 101]⟩) && decide (sites.length = 8))) ∧ Aside0 (SI w0 wc g gc st sites (.slice A sites.length c)))
  case first =>
    by_cases t1 : nextS st = ⟨#[115, 105, 116, 101]⟩
    · have E : ∀ b, b = decide (sites.length = 8) → Aside0 (b = (decide (nextS st = ⟨#[115, 105, 116, 101]⟩) && decide (sites.length = 8))) := fun b hb => ⟨by rw [decide_eq_true t1, Bool.true_and, hb]⟩
      have EE := Aside0.mk E
      rw [t1] at HN
      clear t1 E
      go_wp2_with fail
      refine HN.out.mono ?_
      rintro e w2 ⟨rfl, rfl⟩
      go_wp2
      go_meet
      case rel => exact ⟨_, rfl, EE.out _ (by by_cases h8 : sites.length = 8 <;> simp [h8]; omega), HI⟩
    · have E : Aside0 (false = (decide (nextS st = ⟨#[115, 105, 116, 101]⟩) && decide (sites.length = 8))) := ⟨by rw [decide_eq_false t1, Bool.false_and]⟩
      have q1 := lit_ne t1
      clear t1
      go_wp2_with fail
      refine HN.out.mono ?_
      rintro e w2 ⟨rfl, rfl⟩
      go_wp2
      go_meet
      case rel => exact ⟨_, rfl, E, HI⟩
  case rest =>
  obtain ⟨b, rfl, HB, HI1⟩ := hcut
  clear HN HI c0
  go_upto_if 20 with fail
  go_cut [22] (fun v22 wc => Aside0 (SI w0 wc g gc (if nextS st = ⟨#[115, 105, 116, 101]⟩ ∧ sites.length = 8 then failS st 32 else st) sites (.slice A sites.length c)))
  case first =>
    cases b with
    | true =>
      have E : Aside0 ((if nextS st = ⟨#[115, 105, 116, 101]⟩ ∧ sites.length = 8 then failS st 32 else st) = failS st 32) := ⟨by
        have := HB.out.symm
        simp only [Bool.and_eq_true, decide_eq_true_eq] at this
        rw [if_pos this]⟩
      clear HB
      go_wp2_with fail
      refine (reader_fail_calls w0 _ g _ 32 HI1.out.rd HI1.out.bel).mono ?_
      rintro e w2 ⟨rfl, h1, h2, h3⟩
      have HI2 := Aside0.mk (HI1.out.reader hne h1 h2 h3 (fun x hx => by rwa [failS_l] at hx))
      clear h1 h2 h3
      go_wp2
      go_meet
      case rel => exact ⟨by rw [E.out]; exact HI2.out⟩
    | false =>
      have E : Aside0 ((if nextS st = ⟨#[115, 105, 116, 101]⟩ ∧ sites.length = 8 then failS st 32 else st) = st) := ⟨by
        have := HB.out
        rw [if_neg]
        rintro ⟨h1, h2⟩
        simp [h1, h2] at this⟩
      clear HB
      go_wp2
      go_meet
      case rel => exact ⟨by rw [E.out]; exact HI1.out⟩
  case rest =>
  have HI1 := hcut
  clear hcut HB
  generalize (if nextS st = ⟨#[115, 105, 116, 101]⟩ ∧ sites.length = 8 then failS st 32 else st) = st1 at *
  go_wp2_with fail
  refine (reader_must_calls w0 _ g _ ⟨#[115, 105, 116, 101]⟩ HI1.out.rd HI1.out.bel).mono ?_
  rintro e w1 ⟨rfl, h1, h2, h3⟩
  have HS1 : Aside0 (SI w0 w1 g gc (headS st sites) sites (.slice A sites.length c)) := ⟨by rw [HST.out]; exact HI1.out.reader hne h1 h2 h3 (mustS_mem _ _)⟩
  clear h1 h2 h3 HI1 HST
  unfold siteF at HF
  generalize headS st sites = st2 at *
  have HN := Aside0.mk (reader_next_calls w0 w1 g st2 HS1.out.rd HS1.out.bel)
  have HX := Aside0.mk (nextS_small HS1.out.small)
  have hg : g < w1.heap.size := by
    obtain ⟨A, c, hb, _⟩ := HS1.out.rd
    exact blk_lt hb
  have hgc1 : gc < w1.heap.size := blk_lt HS1.out.box
  have hw01 : w0.heap.size ≤ w1.heap.size := HS1.out.bel.size
  have hgsg : w1.heap.size ≠ g := by omega
  have hgsc : w1.heap.size ≠ gc := by omega
  have HT0 : Aside0 (TI w0 w1 (w1.alloc (.cells #[.string (nextS st2), .int .i64 1, .int .i64 0, .int .i64 3600, .bool true, .bool true, .slice none 0 0] 29)) g w1.heap.size st2 (nextS st2)) := ⟨⟨HS1.out.rd.below (below_alloc (Below.refl _ _) _), below_alloc HS1.out.bel _, KeepBut.of_below (below_alloc (Below.refl _ _) _) g none, heap_alloc_new w1 _, HS1.out.small⟩⟩
  go_wp2_with fail
  refine HN.out.mono ?_
  rintro e w2 ⟨rfl, hw2⟩
  obtain rfl : w1 = w2 := hw2.symm
  clear HN hw2
  have HH := Aside0.mk (fun W => place_Host.calls ((nextS st2).size + 3) (nextS st2) (hostV (nextS st2)).1 (hostV (nextS st2)).2 W (host_of (nextS st2) HX.out ((nextS st2).size + 3) (by omega)))
  have HHS : Aside0 (hostS st2 sites = (if (findS (nextS st2) sites).2 = true then failS (if st2.code = 0 ∧ ¬ ((hostV (nextS st2)).2 = 0 ∧ (hostV (nextS st2)).1 = nextS st2) then failS st2 30 else st2) 31
  else (if st2.code = 0 ∧ ¬ ((hostV (nextS st2)).2 = 0 ∧ (hostV (nextS st2)).1 = nextS st2) then failS st2 30 else st2))) := ⟨rfl⟩
  generalize hostS st2 sites = sth at *
  generalize (hostV (nextS st2)).1 = hv at *
  generalize (hostV (nextS st2)).2 = he at *
  generalize nextS st2 = host at *
  go_wp2_with fail
  refine (HH.out _).mono ?_
  rintro e w3 ⟨rfl, hb3⟩
  have HT1 := Aside0.mk (HT0.out.below hb3)
  clear HT0 hb3 HH
  go_upto_region 5 with fail
  go_cut [49] (fun v49 wc => ∃ b, v49 = .bool b ∧ Aside0 (b = (decide (st2.code = 0) && !(decide (he = 0) && decide (hv = host)))) ∧ Aside0 (TI w0 w1 wc g w1.heap.size st2 host))
  case first =>
    have c1 : w3.cell? ⟨g, 1, none⟩ = some (.int .i64 st2.code) := by
      obtain ⟨A, c, hb, _⟩ := HT1.out.rd
      exact (blk_cell hb 1).trans rfl
    have cs : w3.cell? ⟨w1.heap.size, 0, none⟩ = some (.string host) := (blk_cell HT1.out.bx 0).trans rfl
    by_cases t1 : st2.code = 0
    · by_cases t2 : he = 0
      · have E : Aside0 ((!(hv.toList == host.toList)) = (decide (st2.code = 0) && !(decide (he = 0) && decide (hv = host)))) := ⟨by
          rw [decide_eq_true t1, decide_eq_true t2, Bool.true_and, Bool.true_and]
          by_cases t3 : hv = host
          · rw [decide_eq_true t3, t3]; simp
          · rw [decide_eq_false t3, toList_ne t3]⟩
        rw [t1] at c1
        have q2 : (he != 0) = false := by rw [t2]; rfl
        clear t1 t2
        go_wp2
        go_meet
        case rel => exact ⟨_, rfl, E, HT1⟩
      · have E : Aside0 (true = (decide (st2.code = 0) && !(decide (he = 0) && decide (hv = host)))) := ⟨by rw [decide_eq_true t1, decide_eq_false t2]; rfl⟩
        rw [t1] at c1
        have q2 : (he != 0) = true := bne_iff_ne.2 t2
        clear t1 t2
        go_wp2
        go_meet
        case rel => exact ⟨_, rfl, E, HT1⟩
    · have E : Aside0 (false = (decide (st2.code = 0) && !(decide (he = 0) && decide (hv = host)))) := ⟨by rw [decide_eq_false t1]; rfl⟩
      have q1 : (st2.code == 0) = false := beq_eq_false_iff_ne.2 t1
      clear t1
      go_wp2
      go_meet
      case rel => exact ⟨_, rfl, E, HT1⟩
  case rest =>
  obtain ⟨b, rfl, HB, HT⟩ := hcut
  clear HT1
  go_upto_if 49 with fail
  go_cut [51] (fun v51 wc => Aside0 (TI w0 w1 wc g w1.heap.size (if st2.code = 0 ∧ ¬ (he = 0 ∧ hv = host) then failS st2 30 else st2) host))
  case first =>
    cases b with
    | true =>
      have E : Aside0 ((if st2.code = 0 ∧ ¬ (he = 0 ∧ hv = host) then failS st2 30 else st2) = failS st2 30) := ⟨by
        have := HB.out.symm
        simp only [Bool.and_eq_true, decide_eq_true_eq, Bool.not_eq_true', Bool.and_eq_false_iff, decide_eq_false_iff_not] at this
        rw [if_pos ⟨this.1, fun h => this.2.elim (fun h1 => h1 h.1) (fun h1 => h1 h.2)⟩]⟩
      clear HB
      go_wp2_with fail
      refine (reader_fail_calls w0 _ g _ 30 HT.out.rd HT.out.bel).mono ?_
      rintro e w2 ⟨rfl, h1, h2, h3⟩
      have HT2 := Aside0.mk (HT.out.reader hgsg h1 h2 h3 (fun x hx => by rwa [failS_l] at hx))
      clear h1 h2 h3
      go_wp2
      go_meet
      case rel => exact ⟨by rw [E.out]; exact HT2.out⟩
    | false =>
      have E : Aside0 ((if st2.code = 0 ∧ ¬ (he = 0 ∧ hv = host) then failS st2 30 else st2) = st2) := ⟨by
        have := HB.out
        rw [if_neg]
        rintro ⟨h1, h2⟩
        rw [decide_eq_true h1, Bool.true_and] at this
        have h3 : (decide (he = 0) && decide (hv = host)) = true := by
          cases hx : (decide (he = 0) && decide (hv = host)) with
          | true => rfl
          | false => rw [hx] at this; simp at this
        simp only [Bool.and_eq_true, decide_eq_true_eq] at h3
        exact h2 h3⟩
      clear HB
      go_wp2
      go_meet
      case rel => exact ⟨by rw [E.out]; exact HT.out⟩
  case rest =>
  have HT := hcut
  clear hcut HB
  generalize (if st2.code = 0 ∧ ¬ (he = 0 ∧ hv = host) then failS st2 30 else st2) = st3 at *
  have hlt := HT.out.keep.1
  obtain ⟨hbx, hown⟩ := HS1.out.later hne HT.out.keep
  have kc : wc.cell? ⟨gc, 0, none⟩ = some (.slice A sites.length c) := (blk_cell hbx 0).trans rfl
  have ks : wc.cell? ⟨w1.heap.size, 0, none⟩ = some (.string host) := (blk_cell HT.out.bx 0).trans rfl
  have hCc := (Kd.R_reads' hown).2.2
  have HFI := Aside0.mk (fun W (hS : W.cell? ⟨gc, 0, none⟩ = some (.slice A sites.length c) ∧ W.cell? ⟨w1.heap.size, 0, none⟩ = some (.string host) ∧ Below wc.heap.size wc W) => (conf_Config_Find.calls (sites.length + 1) A c sites host _ _ _ _ _ _ _ _ W (Kd.C_below hCc hS.2.2) hlc (find_of host sites (by omega) (fun x hx => by have := HS1.out.heads x hx; omega) _ (by omega))).mono (fun e w' hp => (show ∃ (A6 : Option Addr) (n6 c6 : Nat), e = .returned (.tuple #[.agg #[.string (findS host sites).1.f0, .int .i64 (findS host sites).1.f1, .int .i64 (findS host sites).1.f2, .int .i64 (findS host sites).1.f3, .bool (findS host sites).1.f4, .bool (findS host sites).1.f5, .slice A6 n6 c6], .bool (findS host sites).2]) ∧ Below wc.heap.size wc w' ∧ Below W.heap.size W w' from hp.elim fun v6 hq => (Kd.R_slice hq.2.1).elim fun A6 h6 => h6.elim fun c6 h7 => ⟨A6, _, c6, by rw [← h7]; exact hq.1, below_then hS.2.2 hS.2.2.size hq.2.2, hq.2.2⟩)))
  have HB3 := Aside0.mk (fun W (hS : W.cell? ⟨gc, 0, none⟩ = some (.slice A sites.length c) ∧ W.cell? ⟨w1.heap.size, 0, none⟩ = some (.string host) ∧ Below wc.heap.size wc W) => hS.2.2)
  have hkb : ∀ W, Below wc.heap.size wc W → W.cell? ⟨gc, 0, none⟩ = some (.slice A sites.length c) ∧ W.cell? ⟨w1.heap.size, 0, none⟩ = some (.string host) ∧ Below wc.heap.size wc W := fun W hb => ⟨pw_cell_below hb kc, pw_cell_below hb ks, hb⟩
  have HKB := Aside0.mk hkb
  clear hbx hown hCc hkb
  generalize (findS host sites).1 = fs at *
  generalize (findS host sites).2 = fb at *
  go_upto_region 7 with fail
  go_cut [8] (fun v8 W => v8 = .bool fb ∧ Aside0 (TI w0 w1 W g w1.heap.size st3 host))
  case first =>
    have kc1 := fun o => (HKB.out _ (below_alloc (Below.refl wc.heap.size wc) o)).1
    have ks1 := fun o => (HKB.out _ (below_alloc (Below.refl wc.heap.size wc) o)).2.1
    have kc2 := (HKB.out _ (below_drew (Below.refl wc.heap.size wc))).1
    have ks2 := (HKB.out _ (below_drew (Below.refl wc.heap.size wc))).2.1
    go_region_with (go_at_call 10; first | (refine (HFI.out wc.drew (HKB.out _ (below_drew (Below.refl _ _)))).mono ?_; rintro e w' ⟨A6, n6, c6, rfl, hb6, hb7⟩) | (refine (HFI.out (wc.drew.alloc (.cells #[.string ⟨#[]⟩, .int .i64 0, .int .i64 0, .int .i64 0, .bool false, .bool false, .slice none 0 0] 29)) (HKB.out _ (below_alloc (below_drew (Below.refl _ _)) _))).mono ?_; rintro e w' ⟨A6, n6, c6, rfl, hb6, hb7⟩; have hz : w'.heap[wc.heap.size]? = some (.cells #[.string ⟨#[]⟩, .int .i64 0, .int .i64 0, .int .i64 0, .bool false, .bool false, .slice none 0 0] 29 (0, 0)) := (hb7.block wc.heap.size (by simp)).trans (heap_alloc_new wc.drew _); have z0 : w'.cell? ⟨wc.heap.size, 0, none⟩ = some (.string ⟨#[]⟩) := (blk_cell hz 0).trans rfl; have y0 : w'.frozen? ⟨wc.heap.size, 0, none⟩ = false := blk_frozen hz 0; have z1 : w'.cell? ⟨wc.heap.size, 1, none⟩ = some (.int .i64 0) := (blk_cell hz 1).trans rfl; have y1 : w'.frozen? ⟨wc.heap.size, 1, none⟩ = false := blk_frozen hz 1; have z2 : w'.cell? ⟨wc.heap.size, 2, none⟩ = some (.int .i64 0) := (blk_cell hz 2).trans rfl; have y2 : w'.frozen? ⟨wc.heap.size, 2, none⟩ = false := blk_frozen hz 2; have z3 : w'.cell? ⟨wc.heap.size, 3, none⟩ = some (.int .i64 0) := (blk_cell hz 3).trans rfl; have y3 : w'.frozen? ⟨wc.heap.size, 3, none⟩ = false := blk_frozen hz 3; have z4 : w'.cell? ⟨wc.heap.size, 4, none⟩ = some (.bool false) := (blk_cell hz 4).trans rfl; have y4 : w'.frozen? ⟨wc.heap.size, 4, none⟩ = false := blk_frozen hz 4; have z5 : w'.cell? ⟨wc.heap.size, 5, none⟩ = some (.bool false) := (blk_cell hz 5).trans rfl; have y5 : w'.frozen? ⟨wc.heap.size, 5, none⟩ = false := blk_frozen hz 5; have z6 : w'.cell? ⟨wc.heap.size, 6, none⟩ = some (.slice none 0 0) := (blk_cell hz 6).trans rfl; have y6 : w'.frozen? ⟨wc.heap.size, 6, none⟩ = false := blk_frozen hz 6))
    all_goals
      clear kc1 ks1 kc2 ks2
      go_wp2_with fail
      go_meet
      case rel => exact ⟨rfl, ⟨HT.out.below (by repeat (first | (with_reducible exact hb6) | (with_reducible refine below_alloc ?_ _) | ((with_reducible refine below_set ?_ ?hge); case hge => first | exact Nat.le_refl _ | exact hb6.size)))⟩⟩
  case rest =>
  obtain ⟨rfl, HT3⟩ := hcut
  clear HFI HKB HB3 kc ks HT
  go_upto_if 61 with fail
  go_cut [63] (fun v63 wc => Aside0 (TI w0 w1 wc g w1.heap.size sth host))
  case first =>
    cases fb with
    | true =>
      have E : Aside0 (sth = failS st3 31) := ⟨by rw [HHS.out, if_pos rfl]⟩
      go_wp2_with fail
      refine (reader_fail_calls w0 _ g _ 31 HT3.out.rd HT3.out.bel).mono ?_
      rintro e w2 ⟨rfl, h1, h2, h3⟩
      have HT2 := Aside0.mk (HT3.out.reader hgsg h1 h2 h3 (fun x hx => by rwa [failS_l] at hx))
      clear h1 h2 h3
      go_wp2
      go_meet
      case rel => exact ⟨by rw [E.out]; exact HT2.out⟩
    | false =>
      have E : Aside0 (sth = st3) := ⟨by rw [HHS.out, if_neg (by simp)]⟩
      go_wp2
      go_meet
      case rel => exact ⟨by rw [E.out]; exact HT3.out⟩
  case rest =>
  have HT := hcut
  clear hcut HHS HT3
  go_wp2_with fail
  refine (reader_take_calls w0 _ g _ HT.out.rd HT.out.bel).mono ?_
  rintro e w2 ⟨rfl, h1, h2, h3⟩
  have HT2 := Aside0.mk (HT.out.reader hgsg h1 h2 h3 (takeS_mem _))
  clear h1 h2 h3 HT
  go_wp2_with fail
  refine (reader_must_calls w0 _ g _ ⟨#[123]⟩ HT2.out.rd HT2.out.bel).mono ?_
  rintro e w3 ⟨rfl, h1, h2, h3⟩
  have HT3 := Aside0.mk (HT2.out.reader hgsg h1 h2 h3 (mustS_mem _ _))
  clear h1 h2 h3 HT2
  have LI : Lie w0 w1 g w1.heap.size w3.heap.size := ⟨hg, Nat.le_refl _, HT3.out.keep.1, by have := blk_lt HT3.out.bx; omega, hw01⟩
  have HR0 : Aside0 (RI w0 w1 (w3.alloc (.map #[] 0)) g w1.heap.size w3.heap.size (mustS (takeS sth) ⟨#[123]⟩) ⟨host, 1, 0, 3600, true, true, []⟩ [] (.slice none 0 0)) := ⟨by
    have hb := below_alloc (Below.refl w3.heap.size w3) (.map #[] 0)
    have h3 := HT3.out.below hb
    exact ⟨h3.rd, h3.bel, h3.keep, h3.bx, own_nil _ _ _ _, fun k hk => by simp [Value.ownBlock] at hk, IsSet.made w3, h3.small, by simp⟩⟩
  have HLI := Aside0.mk LI
  clear HT3 LI
  generalize mustS (takeS sth) ⟨#[123]⟩ = str at *
  cases hrf : rulesF k str ⟨host, 1, 0, 3600, true, true, []⟩ [] with
  | none => rw [hrf] at HF; exact absurd HF.out (by simp)
  | some r7 =>
  obtain ⟨st7, s7⟩ := r7
  have HF7 := HF.out
  rw [hrf] at HF7
  simp only [Option.map_some, Option.some.injEq, Prod.mk.injEq] at HF7
  obtain ⟨hst', hsites'⟩ := HF7
  have HE1 := Aside0.mk hst'
  have HE2 := Aside0.mk hsites'
  have HRF := Aside0.mk hrf
  clear HF hst' hsites' hrf
  go_wp2
  go_loopg [82] k (fun kq v82 wr => ∃ (s1 : St) (sv : Sv) (seen : List ByteArray) (v1 : Value), Aside0 (rulesF kq s1 sv seen = some (st7, s7)) ∧ Aside0 (RI w0 w1 wr g w1.heap.size w3.heap.size s1 sv seen v1) ∧ Aside0 (seen.length + kq ≤ k))
  case atStart => exact ⟨str, _, [], _, HRF, HR0, ⟨by simp⟩⟩
  case round =>
    clear HRF HR0
    obtain ⟨s1, sv, seen, v1, HF, HR, HSL⟩ := hrel
    cases gk with
    | zero => exact absurd HF.out (by simp [rulesF])
    | succ k1 =>
      have c1 : wr.cell? ⟨g, 1, none⟩ = some (.int .i64 s1.code) := by
        obtain ⟨A, c, hb, _⟩ := HR.out.rd
        exact (blk_cell hb 1).trans rfl
      have HN := Aside0.mk (reader_next_calls w0 wr g s1 HR.out.rd HR.out.bel)
      go_upto_region 13 with fail
      go_cut [79] from 69 to 82 (fun v79 W => ∃ b, v79 = .bool b ∧ Aside0 (b = (decide (s1.code = 0) && !decide (nextS s1 = ⟨#[125]⟩))) ∧ Aside0 (RI w0 w1 W g w1.heap.size w3.heap.size s1 sv seen v1))
      case first =>
        by_cases t1 : s1.code = 0
        · by_cases t2 : nextS s1 = ⟨#[125]⟩
          · have E : Aside0 (false = (decide (s1.code = 0) && !decide (nextS s1 = ⟨#[125]⟩))) := ⟨by rw [decide_eq_true t1, decide_eq_true t2]; rfl⟩
            rw [t1] at c1
            rw [t2] at HN
            clear t1 t2
            go_wp2_with fail
            refine HN.out.mono ?_
            rintro e w5 ⟨rfl, rfl⟩
            go_wp2
            go_meet
            case rel => exact ⟨_, rfl, E, HR⟩
          · have E : Aside0 (true = (decide (s1.code = 0) && !decide (nextS s1 = ⟨#[125]⟩))) := ⟨by rw [decide_eq_true t1, decide_eq_false t2]; rfl⟩
            rw [t1] at c1
            have q2 := lit_ne t2
            clear t1 t2
            go_wp2_with fail
            refine HN.out.mono ?_
            rintro e w5 ⟨rfl, rfl⟩
            go_wp2
            go_meet
            case rel => exact ⟨_, rfl, E, HR⟩
        · have E : Aside0 (false = (decide (s1.code = 0) && !decide (nextS s1 = ⟨#[125]⟩))) := ⟨by rw [decide_eq_false t1]; rfl⟩
          have q1 : (s1.code == 0) = false := beq_eq_false_iff_ne.2 t1
          clear t1
          go_wp2
          go_meet
          case rel => exact ⟨_, rfl, E, HR⟩
      case rest =>
      obtain ⟨b, rfl, HB, HR5⟩ := hcut
      clear HR c1 HN
      have HT := HF.out
      unfold rulesF at HT
      cases b with
      | true =>
        have hb := HB.out.symm
        simp only [Bool.and_eq_true, decide_eq_true_eq, Bool.not_eq_true', decide_eq_false_iff_not] at hb
        rw [if_pos hb.1, if_neg hb.2] at HT
        clear hb HB HF
        cases hrr : ruleF k1 s1 sv seen with
        | none => rw [hrr] at HT; simp at HT
        | some rr =>
        rw [hrr] at HT
        obtain ⟨sa, sb, sc⟩ := rr
        have HTN : Aside0 (rulesF k1 sa sb sc = some (st7, s7)) := ⟨HT⟩
        have hlen : sc.length = seen.length + 1 := by
          unfold ruleF at hrr
          cases hbb : bodyF k1 (nextS s1) (nameS s1 seen) sv with
          | none => rw [hbb] at hrr; simp at hrr
          | some r => rw [hbb] at hrr; simp at hrr; rw [← hrr.2.2]; simp
        have HLN := Aside0.mk hlen
        have HRU := Aside0.mk (reader_rule_calls k1 w0 w1 _ g w1.heap.size w3.heap.size s1 sv seen v1 sa sb sc HR5.out HLI.out HGL.out (by have := HSL.out; omega) hrr)
        clear HT hrr hlen HR5
        go_wp2_with fail
        refine HRU.out.mono ?_
        rintro e w6 ⟨rfl, v6, hr6⟩
        have HR6 := Aside0.mk hr6
        clear hr6 HRU
        go_wp2
        go_roundg k1
        case measure => omega
        case rel => exact ⟨_, _, _, _, HTN, HR6, ⟨by rw [HLN.out]; have := HSL.out; omega⟩⟩
      | false =>
        have HE : Aside0 (s1 = st7 ∧ sv = s7) := ⟨by
          by_cases t1 : s1.code = 0
          · rw [if_pos t1] at HT
            by_cases t2 : nextS s1 = ⟨#[125]⟩
            · rw [if_pos t2] at HT
              simpa using HT
            · have := HB.out
              rw [decide_eq_true t1, decide_eq_false t2] at this
              simp at this
          · rw [if_neg t1] at HT
            simpa using HT⟩
        obtain ⟨e1, e2⟩ := HE.out
        subst e1 e2
        clear HE HB HF HT
        go_wp2_with fail
        refine (reader_must_calls w0 _ g _ ⟨#[125]⟩ HR5.out.rd HR5.out.bel).mono ?_
        rintro e w6 ⟨rfl, h1, h2, h3⟩
        have HR6 := Aside0.mk (HR5.out.reader HLI.out h1 h2 h3 (mustS_mem _ _))
        clear h1 h2 h3 HR5
        obtain ⟨A1, c1, hv1⟩ := own_slice HR6.out.own
        generalize hn1 : sv.hs.length = n1 at hv1
        subst hv1
        clear hn1
        obtain ⟨hbox, hRo⟩ := HS1.out.later hne HR6.out.keep
        have hlt7 := Kd.R_lt HS1.out.own
        have hbs7 := Kd.R_base HS1.out.own
        obtain ⟨h07, inner, hown7, hreps7⟩ := hRo
        have ltgs : w1.heap.size < w6.heap.size := blk_lt HR6.out.site
        have ltgc : gc < w6.heap.size := blk_lt hbox
        have hw06 : w0.heap.size ≤ w6.heap.size := HR6.out.bel.size
        have farc : (Value.slice A sites.length c).ownBlock ≠ some gc := fun e => (h07 gc e).2 rfl
        have kc6 : w6.cell? ⟨gc, 0, none⟩ = some (.slice A sites.length c) := (blk_cell hbox 0).trans rfl
        have zc6 : w6.frozen? ⟨gc, 0, none⟩ = false := blk_frozen hbox 0
        have e0 := fun o => cell_new_ (o := o) ltgc kc6
        have f0 : w6.cell? ⟨w1.heap.size, 0, none⟩ = some (.string sv.host) := (blk_cell HR6.out.site 0).trans rfl
        have f1 : w6.cell? ⟨w1.heap.size, 1, none⟩ = some (.int .i64 sv.origin) := (blk_cell HR6.out.site 1).trans rfl
        have f2 : w6.cell? ⟨w1.heap.size, 2, none⟩ = some (.int .i64 sv.mn) := (blk_cell HR6.out.site 2).trans rfl
        have f3 : w6.cell? ⟨w1.heap.size, 3, none⟩ = some (.int .i64 sv.mx) := (blk_cell HR6.out.site 3).trans rfl
        have f4 : w6.cell? ⟨w1.heap.size, 4, none⟩ = some (.bool sv.q) := (blk_cell HR6.out.site 4).trans rfl
        have f5 : w6.cell? ⟨w1.heap.size, 5, none⟩ = some (.bool sv.kp) := (blk_cell HR6.out.site 5).trans rfl
        have f6 : w6.cell? ⟨w1.heap.size, 6, none⟩ = some (.slice A1 n1 c1) := (blk_cell HR6.out.site 6).trans rfl
        obtain ⟨i0, hi0, hz0, hz1, hz2⟩ := info_parts infoSite
        have HO7 := Aside0.mk hown7
        have HBX := Aside0.mk (fun o => ((below_drew (below_alloc (Below.refl w6.heap.size w6) o)).block gc ltgc).trans hbox)
        have H07 := Aside0.mk h07
        have HRP := Aside0.mk (fun o => hreps7.imp_ (fun _ _ hp => k29.M_mono (fun k hk => hk.1) (k29.M_move (fun k hk => (below_drew (below_alloc (Below.refl w6.heap.size w6) o)).block k hk.2.2.1) (k29.M_bound hp))))
        have HLT := Aside0.mk hlt7
        have HBS := Aside0.mk hbs7
        have HRn := Aside0.mk (fun o => HR6.out.below (below_drew (below_alloc (Below.refl w6.heap.size w6) o)))
        have HFC := Aside0.mk farc
        clear hown7 hbox h07 hreps7 hlt7 hbs7 farc
        go_upto_region 16 with fail
        go_region_law ((refine step_append_lies _ (by rfl) _ _ _ (by rfl) w0.heap.size 29 i0 _ 7 72 Tryd.underlying22 hi0 hz0 hz1 hz2 rfl (by omega) (.slice A sites.length c) sites.length inner (by rfl) ((HO7.out.alloc _).drew) ⟨w6.heap.size, 0, none⟩ 1 1 [.string sv.host, .int .i64 sv.origin, .int .i64 sv.mn, .int .i64 sv.mx, .bool sv.q, .bool sv.kp, .slice A1 n1 c1] (by rfl) (by rfl) (World.news_of_block (cs := #[.string sv.host, .int .i64 sv.origin, .int .i64 sv.mn, .int .i64 sv.mx, .bool sv.q, .bool sv.kp, .slice A1 n1 c1]) (t := 29) (fr := (0, 0)) (heap_alloc_new w6 _)) (by simp [Value.oneCell']) (by omega) (by unfold maxLen; omega) (by omega) (by simp; omega) (w6.heap.size + 1) (by simp) ?_; intro gg cap w8 hown8 hgrow8 hat8 hlt8; have c8 : w8.cell? ⟨gc, 0, none⟩ = some (.slice A sites.length c) := (hgrow8.cell_far _ (by simp; omega) (Ne.symm HFC.out)).trans (cell_new_ ltgc kc6); have z8 : w8.frozen? ⟨gc, 0, none⟩ = false := (hgrow8.frozen_far _ (by simp; omega) (Ne.symm HFC.out)).trans (frz_new ltgc zc6)))
        all_goals
          have HSA := Aside0.mk (SI.app (HRn.out _) HLI.out hne hgc1 hgc (HBX.out _) H07.out HBS.out HLT.out (HRP.out _) HS1.out.heads hgrow8 hown8 (hat8.elim (fun h => .inl (show some gg = _ from h.symm)) (fun h => .inr ⟨gg, rfl, by simp; omega⟩)))
          clear hgrow8 hown8 hat8 hlt8 c8 z8
          go_wp2
          go_end0
          exact ⟨rfl, _, by rw [← HE1.out, ← HE2.out]; exact HSA.out⟩
end Go.Proofs.YtcoaajkhfgakgaaDoor.Pr
end
