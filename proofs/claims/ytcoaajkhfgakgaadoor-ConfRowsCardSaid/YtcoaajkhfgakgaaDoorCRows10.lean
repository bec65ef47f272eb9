/- Part 10 of the proof of Rows: what the program's functions compute, and that it is so. Conditions: as each theorem states. (Packed out of our texts: XRowsTrue, XLaid, XRowRows.) -/
import Derived.Test.YtcoaajkhfgakgaaDoorCRows9
import Derived.Test.YtcoaajkhfgakgaaDoorRows
import Derived.Lib.LaidTab
import Derived.LaidSub
import Derived.Test.YtcoaajkhfgakgaaDoorTie
import Derived.Test.YtcoaajkhfgakgaaDoorCards
import Derived.ProofKit
import Derived.OpenShut
import Derived.ShutString
import Derived.ChangeOld
import Derived.Below
import Derived.SizedLaws
import Derived.LaidMore
import Derived.Lay
import Derived.SevenTiedAt
import Derived.Stop.Joined
section
namespace Go.Proofs.YtcoaajkhfgakgaaDoor.Pr
open Go.RowKit Go.Proofs.YtcoaajkhfgakgaaDoorW.PrintWords Go.Proofs.YtcoaajkhfgakgaaDoorW.PrintLast Go.Proofs.YtcoaajkhfgakgaaDoorW.PrintMore
set_option linter.unusedVariables false
set_option linter.unusedSimpArgs false
theorem rowsA_l0 (a b : ByteArray) (c d : List S29) (ha : a.size ≤ 1500) (hb : b.size ≤ 1500) (h8 : c.length + d.length ≤ 8) (hc4 : ∀ x ∈ c, x.f6.length ≤ 4) (hd4 : ∀ x ∈ d, x.f6.length ≤ 4)
    (hn : ∀ x ∈ c, (findS x.f0 d).2 = false) (hR : conf_Read.f ((a ++ (⟨#[10]⟩ : ByteArray)) ++ b) = some (c ++ d, 0, 0)) : ∀ (n i k : Nat), c.length - i = n → i ≤ c.length → n + 60 < k → cRA.l0 k a b c (c.length : Int) (i : Int) c d = some true
  | _, _, 0, _, _, hk => by omega
  | 0, i, k + 1, hd, hi, hk => by
    have hz : (a ++ (⟨#[10]⟩ : ByteArray)).size = a.size + 1 := by rw [ByteArray.size_append]; rfl
    unfold cRA.l0
    rw [if_neg (by omega), if_pos (by omega), if_pos (by omega), hR]
    simp only [Option.bind_some, List.nil_append, List.length_nil]
    rw [if_pos (by omega), if_pos (by omega), if_pos (by decide), made_of (c ++ d) (by simp; omega) k (by simp; omega)]
    simp only [Option.bind_some]
    rw [same_refl (c ++ d) (by simp; omega) (fun x hx => by
      rcases List.mem_append.1 hx with hx | hx
      · exact hc4 x hx
      · exact hd4 x hx) k (by omega)]
    rfl
  | n + 1, i, k + 1, hd, hi, hk => by
    have hlt : i < c.length := by omega
    unfold cRA.l0
    rw [if_pos (by omega), if_pos (by omega), if_pos (by omega), rd_at c i hlt, find_of c[i].f0 d (by omega) (fun x hx => by have := hd4 x hx; omega) k (by omega)]
    simp only [Option.bind_some]
    have hw : wrap64 ((i : Int) + 1) = ((i + 1 : Nat) : Int) := by unfold wrap64; omega
    rw [hn c[i] (List.getElem_mem hlt), if_neg (by decide), hw]
    exact rowsA_l0 a b c d ha hb h8 hc4 hd4 hn hR n (i + 1) k (by omega) (by omega) (by omega)
theorem rowsB_l0 (a b : ByteArray) (c d : List S29) (ha : a.size ≤ 1500) (hb : b.size ≤ 1500) (h8 : c.length + d.length ≤ 8) (hd4 : ∀ x ∈ d, x.f6.length ≤ 4) {l : Int}
    (hR : conf_Read.f ((a ++ (⟨#[10]⟩ : ByteArray)) ++ b) = some ([], 31, l)) : ∀ (n i k : Nat), c.length - i = n → i ≤ c.length → n + 60 < k → (∃ x ∈ c.drop i, (findS x.f0 d).2 = true) → cRB.l0 k a b c (c.length : Int) (i : Int) c d = some true
  | _, _, 0, _, _, hk, _ => by omega
  | 0, i, k + 1, hd, hi, hk, ⟨x, hx, _⟩ => by
    rw [List.drop_eq_nil_of_le (by omega)] at hx
    cases hx
  | n + 1, i, k + 1, hd, hi, hk, hf => by
    have hlt : i < c.length := by omega
    have hz : (a ++ (⟨#[10]⟩ : ByteArray)).size = a.size + 1 := by rw [ByteArray.size_append]; rfl
    unfold cRB.l0
    rw [if_pos (by omega), if_pos (by omega), if_pos (by omega), rd_at c i hlt, find_of c[i].f0 d (by omega) (fun x hx => by have := hd4 x hx; omega) k (by omega)]
    simp only [Option.bind_some]
    by_cases hfi : (findS c[i].f0 d).2 = true
    · rw [if_pos hfi, if_pos (by omega), if_pos (by omega), hR]
      rfl
    · have hw : wrap64 ((i : Int) + 1) = ((i + 1 : Nat) : Int) := by unfold wrap64; omega
      rw [if_neg hfi, hw]
      refine rowsB_l0 a b c d ha hb h8 hd4 hR n (i + 1) k (by omega) (by omega) (by omega) ?_
      obtain ⟨x, hx, hxf⟩ := hf
      rw [List.drop_eq_getElem_cons hlt] at hx
      rcases List.mem_cons.1 hx with rfl | hx
      · exact absurd hxf hfi
      · exact ⟨x, hx, hxf⟩
theorem rowsB_great (a0 a1 : ByteArray) (h : (a0.size : Int) > 1500 ∨ (a1.size : Int) > 1500) (k : Nat) : cRB.f (k + 1) a0 a1 = some true := by
  have hj : ∀ b, b = true → cRB.j0 (k + 1) a0 a1 b = some true := fun b hb => by rw [cRB.j0, if_pos hb]
  unfold cRB.f
  rw [pantrylaw09_anchor.yes, Option.bind_some, if_pos rfl]
  by_cases h1 : (a0.size : Int) > 1500
  · rw [if_pos h1]; exact hj _ rfl
  · rw [if_neg h1]; exact hj _ (decide_eq_true (by omega))
theorem rowsB_go (a0 a1 : ByteArray) (h1 : ¬ (a0.size : Int) > 1500) (h2 : ¬ (a1.size : Int) > 1500) {c d : List S29} {code1 l1 code2 l2 : Int} (hc1 : conf_Read.f (a0 ++ (⟨#[10]⟩ : ByteArray)) = some (c, code1, l1)) (hd1 : conf_Read.f a1 = some (d, code2, l2)) (k : Nat) :
    cRB.f (k + 1) a0 a1 = if code1 = 0 then (if code2 = 0 then cRB.j1 k a0 a1 (decide ((wrap64 ((c.length : Int) + (d.length : Int))) > 8)) c d else cRB.j1 k a0 a1 true c d) else cRB.j1 k a0 a1 true c d := by
  unfold cRB.f
  rw [pantrylaw09_anchor.yes, Option.bind_some, if_pos rfl, if_neg h1, cRB.j0, decide_eq_false h2, if_neg (by decide), if_pos (by omega), hc1, hd1]
  simp only [Option.bind_some]
theorem rowsA_go (a0 a1 : ByteArray) (h1 : ¬ (a0.size : Int) > 1500) (h2 : ¬ (a1.size : Int) > 1500) {c d : List S29} {l1 l2 : Int} (hc1 : conf_Read.f (a0 ++ (⟨#[10]⟩ : ByteArray)) = some (c, 0, l1)) (hd1 : conf_Read.f a1 = some (d, 0, l2)) (k : Nat) :
    cRA.f (k + 1) a0 a1 = cRA.j1 k a0 a1 (decide ((wrap64 ((c.length : Int) + (d.length : Int))) > 8)) c d := by
  unfold cRA.f
  rw [pantrylaw09_anchor.yes, Option.bind_some, if_pos rfl, if_neg h1, cRA.j0, decide_eq_false h2, if_neg (by decide), if_pos (by omega), hc1, hd1]
  simp only [Option.bind_some, if_true]
theorem rowsB_j1 (a0 a1 : ByteArray) (c d : List S29) (k : Nat) (b : Bool) (hb : b = true) : cRB.j1 (k + 1) a0 a1 b c d = some true := by rw [cRB.j1, if_pos hb]
theorem rowsB_j1f (a0 a1 : ByteArray) (c d : List S29) (k : Nat) (b : Bool) (hb : b = false) : cRB.j1 (k + 1) a0 a1 b c d = cRB.l0 k a0 a1 c (c.length : Int) 0 c d := by rw [cRB.j1, hb, if_neg (by decide)]
theorem rowsA_j1f (a0 a1 : ByteArray) (c d : List S29) (k : Nat) (b : Bool) (hb : b = false) : cRA.j1 (k + 1) a0 a1 b c d = cRA.l0 k a0 a1 c (c.length : Int) 0 c d := by rw [cRA.j1, hb, if_neg (by decide)]
theorem rows_small (a0 a1 : ByteArray) (h1 : ¬ (a0.size : Int) > 1500) (h2 : ¬ (a1.size : Int) > 1500) {c d : List S29} {code1 l1 code2 l2 : Int} (hc1 : conf_Read.f (a0 ++ (⟨#[10]⟩ : ByteArray)) = some (c, code1, l1)) (hd1 : conf_Read.f a1 = some (d, code2, l2)) : ∃ k, cRA.f k a0 a1 = some true ∨ cRB.f k a0 a1 = some true := by
  obtain ⟨c8, c4⟩ := read_len hc1
  obtain ⟨d8, d4⟩ := read_len hd1
  obtain ⟨K, hK⟩ : ∃ K, K = c.length + 100 := ⟨_, rfl⟩
  refine ⟨K + 1 + 1, ?_⟩
  have hB := rowsB_go a0 a1 h1 h2 hc1 hd1 (K + 1)
  by_cases e1 : code1 = 0
  · by_cases e2 : code2 = 0
    · have hw : wrap64 ((c.length : Int) + (d.length : Int)) = ((c.length + d.length : Nat) : Int) := by unfold wrap64; omega
      rw [if_pos e1, if_pos e2, hw] at hB
      by_cases e3 : c.length + d.length ≤ 8
      · subst e1 e2
        obtain ⟨hA1, hB1⟩ := rows_two a0 a1 (by omega) (by omega) hc1 hd1 e3
        by_cases hf : ∃ x ∈ c, (findS x.f0 d).2 = true
        · obtain ⟨l, hl⟩ := hB1 hf
          right
          rw [hB, rowsB_j1f a0 a1 c d K _ (decide_eq_false (by omega))]
          exact rowsB_l0 a0 a1 c d (by omega) (by omega) e3 d4 hl c.length 0 K (by omega) (Nat.zero_le _) (by omega) (by rw [List.drop_zero]; exact hf)
        · have hn : ∀ x ∈ c, (findS x.f0 d).2 = false := fun x hx => by
            cases hxf : (findS x.f0 d).2 with
            | false => rfl
            | true => exact absurd ⟨x, hx, hxf⟩ hf
          left
          rw [rowsA_go a0 a1 h1 h2 hc1 hd1 (K + 1), hw, rowsA_j1f a0 a1 c d K _ (decide_eq_false (by omega))]
          exact rowsA_l0 a0 a1 c d (by omega) (by omega) e3 c4 d4 hn (hA1 hn) c.length 0 K (by omega) (Nat.zero_le _) (by omega)
      · right
        rw [hB, rowsB_j1 a0 a1 c d K _ (decide_eq_true (by omega))]
    · right
      rw [if_pos e1, if_neg e2] at hB
      rw [hB, rowsB_j1 a0 a1 c d K _ rfl]
  · right
    rw [if_neg e1] at hB
    rw [hB, rowsB_j1 a0 a1 c d K _ rfl]
theorem rows_true (a0 a1 : ByteArray) : ∃ k, cRA.f k a0 a1 = some true ∨ cRB.f k a0 a1 = some true := by
  by_cases h1 : (a0.size : Int) > 1500
  · exact ⟨0 + 1, .inr (rowsB_great a0 a1 (.inl h1) 0)⟩
  · by_cases h2 : (a1.size : Int) > 1500
    · exact ⟨0 + 1, .inr (rowsB_great a0 a1 (.inr h2) 0)⟩
    · have hz : (a0 ++ (⟨#[10]⟩ : ByteArray)).size = a0.size + 1 := by rw [ByteArray.size_append]; rfl
      obtain ⟨rc, _, _, hc⟩ := read_eq (a0 ++ (⟨#[10]⟩ : ByteArray)) (by omega)
      obtain ⟨rd, _, _, hd⟩ := read_eq a1 (by omega)
      generalize (if rc.1.code = 0 then (rc.2, (0 : Int), (0 : Int)) else ([], rc.1.code, rc.1.line)) = x at hc
      generalize (if rd.1.code = 0 then (rd.2, (0 : Int), (0 : Int)) else ([], rd.1.code, rd.1.line)) = y at hd
      obtain ⟨c, code1, l1⟩ := x
      obtain ⟨d, code2, l2⟩ := y
      exact rows_small a0 a1 h1 h2 hc hd
theorem ConfRows_calls (a0 a1 : ByteArray) (w : World) (hG : GL w) : Calls Tryd.prog 5 #[.string a0, .string a1] w fun e w' => e = .returned (.bool true) ∧ Below w.heap.size w w' := by
  obtain ⟨k, hk | hk⟩ := rows_true a0 a1
  · exact cRA.calls k a0 a1 true ⟨rfl⟩ w hG hk
  · exact cRB.calls k a0 a1 true ⟨rfl⟩ w hG hk
end Go.Proofs.YtcoaajkhfgakgaaDoor.Pr
end

section
namespace Go.Proofs.YtcoaajkhfgakgaaDoor.Pr
open Go.RowKit Go.Proofs.YtcoaajkhfgakgaaDoorW.PrintWords Go.Proofs.YtcoaajkhfgakgaaDoorW.PrintLast Go.Proofs.YtcoaajkhfgakgaaDoorW.PrintMore
set_option linter.unusedVariables false
set_option linter.unusedSimpArgs false
theorem iface_cells {H : Type} {enc : TypeId × Value → H} {P : Program} {w : World} {base : Nat} {spare : Nat → Bool} {held : Bool} {fuel : Nat} {t : TypeId} {ms : Array (String × TypeId)} {cs : List Value} {nm : String} {d : DataW H} {q : List MemPlace}
    (ht : P.underlying t = some (.interface ms)) (h : DataW.trod enc P w base spare held fuel t cs = some (.iface nm d, q)) : ∃ u v, cs = [.iface u v] := by
  cases fuel with
  | zero => simp [DataW.trod] at h
  | succ n =>
    unfold DataW.trod at h
    rw [ht] at h
    match cs with
    | [] => simp at h
    | [c] =>
      cases c <;> simp at h
      exact ⟨_, _, rfl⟩
    | _ :: _ :: _ => simp at h
theorem gSyn : Tryd.prog.globalNamed "strconv.ErrSyntax" = some 4 := by kernel_rfl
theorem tSyn : (Tryd.prog.globals[4]?).map (·.type) = some 72 := by kernel_rfl
theorem gRng : Tryd.prog.globalNamed "strconv.ErrRange" = some 5 := by kernel_rfl
theorem tRng : (Tryd.prog.globals[5]?).map (·.type) = some 72 := by kernel_rfl
theorem gPow : Tryd.prog.globalNamed "internal/strconv.uint64pow10" = some 0 := by kernel_rfl
theorem tPow : (Tryd.prog.globals[0]?).map (·.type) = some 126 := by kernel_rfl
theorem cPow : Tryd.prog.cellsOf 126 = 20 := by kernel_rfl
theorem cU64 : Tryd.prog.cellsOf 113 = 1 := by kernel_rfl
theorem one_of {l : List (String × DataW Unit)} {W : World} (hn : (l.all fun x => x.2.handleName?.isNone) = true) (h : laidMetH Tryd.prog l W) (n : String) : laidMet Tryd.prog (l.filter fun x => x.1 == n) W := by
  have h1 := (laidMetH_iff.1 h).1
  have e : (l.filter fun x => x.2.handleName?.isNone) = l := List.filter_eq_self.2 (fun x hx => List.all_eq_true.1 hn x hx)
  rw [e] at h1
  exact h1.filter _
theorem err_of {W : World} {n : String} {g : Nat} {nm : String} {d : DataW Unit} (hg : Tryd.prog.globalNamed n = some g) (ht : (Tryd.prog.globals[g]?).map (·.type) = some 72) (h : laidMet Tryd.prog [(n, .iface nm d)] W) : ∃ tp p, W.var? Tryd.prog n = some #[.iface tp p] := by
  obtain ⟨ps, ⟨g', t', cs, fuel, p, q, hg', ht', hvar, hd, _, _⟩, _⟩ := h
  obtain rfl := Option.some.inj (hg.symm.trans hg')
  obtain rfl := Option.some.inj (ht.symm.trans ht')
  obtain ⟨u, v, hcs⟩ := iface_cells Tryd.underlying72 hd
  refine ⟨u, v, ?_⟩
  rw [hvar]
  congr 1
  exact Array.toList_inj.1 hcs
theorem gl_of_laid {W : World} (h : laidMetH Tryd.prog Rows.confFindsRow.laid W) : GL W := by
  have hn : (Rows.confFindsRow.laid.all fun x => x.2.handleName?.isNone) = true := by kernel_rfl
  exact ⟨err_of gSyn tSyn (one_of hn h "strconv.ErrSyntax"), err_of gRng tRng (one_of hn h "strconv.ErrRange"),
    Lib.tabIs_of_head (rest := []) gPow tPow Tryd.underlying126 Tryd.underlying113 cU64 cPow (one_of hn h "internal/strconv.uint64pow10")⟩
end Go.Proofs.YtcoaajkhfgakgaaDoor.Pr
end

section
namespace Go.Proofs.YtcoaajkhfgakgaaDoor.confRows
open Go.ChangeShapes Go.WideShapes Go.ChangeAt Go.RowKit
open Go.ChangeMaps (open_string shut_string)
set_option linter.unusedVariables false
theorem own : ownKnob Tryd.prog.godebug = none := by kernel_rfl
set_option maxRecDepth 100000 in
theorem lifted (os : Os) (started : os.Started) (H : Type) (enc : TypeId × Value → H) :
    ReturnsInHanded {} Tryd.checked os 5 .any (fun w args => (Rows.confRowsSpec.pre enc Tryd.prog Tryd.f5 [] false w args ∧ laidMetH Tryd.prog Rows.confRowsRow.laid w) ∧ sizedMet enc Tryd.prog Tryd.f5 (OpenSpec.ofChange Rows.confRowsSpec) false w args)
      (Rows.confRowsSpec.post enc Tryd.prog Tryd.f5 false true false false) := by
  refine returnsInHanded_of_change_and (C := Tryd.checked) (X := fun w _ => laidMetH Tryd.prog Rows.confRowsRow.laid w) (fun _ _ _ hh h => h.of_heap hh) own started (by kernel_rfl) Tryd.func5
    (ChangeSpec.witness_shaped (enc := enc) (C := Tryd.checked) (os := os) (X := fun w _ => laidMetH Tryd.prog Rows.confRowsRow.laid w) false (World.laidAll Tryd.prog os Rows.confRowsRow.laid) #[.string ByteArray.empty, .string ByteArray.empty] 8 (World.laidAll_os _ _ _)
      (World.shaped_of_ZipB (by kernel_rfl) (by kernel_rfl)) (by kernel_rfl) (by kernel_rfl) (by kernel_rfl)
      (by rw [MakeChecks.laidMetH_plain _ _ _ (by kernel_rfl)]; exact laidMet_laidAll _ (by kernel_rfl) (by kernel_rfl))) ?_
  intro W base args ds gs before hval0 hW _ hsz0 hL _
  have hsz : (DataW.weightsEach Tryd.prog (Tryd.f5.params.toList ++ Rows.confRowsSpec.plain.varTypes Tryd.prog) (ds ++ gs)).all (· ≤ reachBytes) = true := hsz0
  have hval : ∀ (j : Nat) t v, Tryd.f5.params[j]? = some t → args[j]? = some v → Value.okWide Tryd.prog W .any base t v := hval0
  have hW' := hW
  obtain ⟨p, q, hA0, hV, rfl, hfz, hnd⟩ := hW
  have hA : DataW.TrodAll enc Tryd.prog W 0 (fun _ => true) true Tryd.f5.params.toList args.toList ds p := hA0
  rw [Tryd.params5] at hA hval hsz
  obtain ⟨v0, vs0, d0, ds0, p0, q0, hargs, rfl, rfl, h0, r0⟩ := trodAll_cons hA
  obtain ⟨v1, vs1, d1, ds1, p1, q1, rfl, rfl, rfl, h1, r1⟩ := trodAll_cons r0
  obtain ⟨rfl, rfl, rfl⟩ := trodAll_nil r1
  obtain rfl : args = #[v0, v1] := by cases args; simp_all
  obtain ⟨rfl, rfl⟩ := trodVars_none hV
  obtain ⟨a0, rfl, rfl, rfl, y0⟩ := open_string Tryd.underlying9 (hval 0 9 v0 rfl rfl) h0
  have w0 : a0.size ≤ 140737488351232 := by
    have z := sized_string hsz (j := 0) (t := 9) rfl rfl
    rw [Array.length_toList] at z
    exact z
  obtain ⟨a1, rfl, rfl, rfl, y1⟩ := open_string Tryd.underlying9 (hval 1 9 v1 rfl rfl) h1
  have w1 : a1.size ≤ 140737488351232 := by
    have z := sized_string hsz (j := 1) (t := 9) rfl rfl
    rw [Array.length_toList] at z
    exact z
  clear hA0 hval0 hsz0 hsz
  have hG : Pr.GL W := Pr.gl_of_laid hL
  refine (Pr.ConfRows_calls a0 a1 W hG).mono fun e W' ⟨he, bel⟩ => ?_
  subst he
  exact ⟨_, rfl, _, _, _, [], _, [], hW', trodAll_mk1 (shut_bool Tryd.underlying4 _), (trodAll_cons_mk (shut_string Tryd.underlying9 y0) (trodAll_cons_mk (shut_string Tryd.underlying9 y1) trodAll_mk0)), rfl, bel.frame _, fun h => by cases h⟩
theorem over : Rows.confRowsRow.holds Tryd.pinned (OpenSpec.ofChange Rows.confRowsSpec) :=
  OpenClaim.holds_of_wide 5 Tryd.f5 rfl rfl rfl rfl rfl rfl rfl ⟨rfl, rfl, rfl, rfl, rfl⟩ rfl rfl rfl rfl rfl (by kernel_rfl) Tryd.func5 (by kernel_rfl)
    (of_decide_eq_true (by kernel_rfl)) (by unfold Func.isWrapper; first | (rw [if_pos (by decide +kernel)]; kernel_rfl) | (rw [if_neg (by decide +kernel)]; exact ⟨rfl, rfl⟩))
    (fun os started H enc _ => lifted os started H enc)
end Go.Proofs.YtcoaajkhfgakgaaDoor.confRows
namespace Go.Proofs.YtcoaajkhfgakgaaDoor
theorem confRows_row : Rows.ConfRowsSaid := confRows.over
theorem confRows_holds : Rows.ConfRowsCardSaid :=
  Claim7.holds_tied_plain_at .later [] Rows.confRowsCard.laidKinds true Rows.confRowsCard.stood.harness true
    confRows_row (fun _ h => by cases h) (by kernel_rfl) (fun _ h => by cases h) confRows_row_tie rfl ⟨rfl, rfl⟩ (by kernel_rfl) rfl
    (fun f fn hf hfn => by
      obtain rfl : f = 5 := Option.some.inj ((show Tryd.prog.funcNamed "pantry/pantrylaw09.ConfRows" = some 5 by kernel_rfl).symm.trans hf) |>.symm
      obtain rfl : fn = Tryd.f5 := (Option.some.inj (Tryd.func5.symm.trans hfn)).symm
      exact ⟨by kernel_rfl, fun j t ht => by
        rw [Tryd.params5] at ht
        have hm : t ∈ [9, 9] := by simpa using Array.mem_of_getElem? ht
        have hall : ([9, 9].all fun u => !Tryd.prog.wantsStandIn u) = true := by kernel_rfl
        exact (show Tryd.prog.wantsStandIn t = false by simpa using List.all_eq_true.1 hall t hm)⟩)
    (by kernel_rfl)
#print axioms confRows_holds
end Go.Proofs.YtcoaajkhfgakgaaDoor
end
