/- Part 7 of the proof of Lines: what the program's functions compute, and that it is so. Conditions: as each theorem states. (Packed out of our texts: XLinesLaw, XLaid, XRowLines.) -/
import Derived.Test.YtcoaajkhfgakgaaDoorCLines6
import Derived.Test.YtcoaajkhfgakgaaDoorRows
import Derived.Lib.LaidTab
import Derived.LaidSub
import Derived.Test.YtcoaajkhfgakgaaDoorTie
import Derived.Test.YtcoaajkhfgakgaaDoorCards
import Derived.ProofKit
import Derived.OpenShut
import Derived.ShutString
import Derived.ChangeOld
import Derived.Below
import Derived.SizedLaws
import Derived.LaidMore
import Derived.Lay
import Derived.SevenTiedAt
import Derived.Stop.Joined
section
namespace Go.Proofs.YtcoaajkhfgakgaaDoor.Pr
open Go.RowKit Go.Proofs.YtcoaajkhfgakgaaDoorW.PrintWords Go.Proofs.YtcoaajkhfgakgaaDoorW.PrintLast Go.Proofs.YtcoaajkhfgakgaaDoorW.PrintMore
set_option linter.unusedVariables false
set_option linter.unusedSimpArgs false
theorem fa_map {R Q T : Int → Int → Prop} (g : Wd → Wd) (hs : ∀ x, (g x).s = x.s) (hl : ∀ x, Q x.line (g x).line) (hc : ∀ a b c, R a b → Q b c → T a c) : ∀ {l m : List Wd}, Fa R l m → Fa T l (m.map g)
  | [], [], _ => trivial
  | x :: l, y :: m, h => ⟨h.1.trans (hs y).symm, hc _ _ _ h.2.1 (hl y), fa_map g hs hl hc h.2.2⟩
  | [], _ :: _, h => h.elim
  | _ :: _, [], h => h.elim
theorem fa_self {R : Int → Int → Prop} : ∀ {l : List Wd}, (∀ x ∈ l, R x.line x.line) → Fa R l l
  | [], _ => trivial
  | x :: l, h => ⟨rfl, h x (by simp), fa_self (fun y hy => h y (by simp [hy]))⟩
theorem endW_line (s : ByteArray) (i : Nat) (line frm : Int) (ws : List Wd) (B : Int) (h : ∀ x ∈ ws, 1 ≤ x.line ∧ x.line ≤ B) (h1 : 1 ≤ line) (h2 : line ≤ B) : ∀ x ∈ endW s i line frm ws, 1 ≤ x.line ∧ x.line ≤ B := by
  intro x hx
  unfold endW at hx
  split at hx
  · rcases List.mem_append.1 hx with hx | hx
    · exact h x hx
    · rw [List.mem_singleton.1 hx]
      exact ⟨h1, h2⟩
  · exact h x hx
theorem tkF_line (s : ByteArray) : ∀ (n k : Nat) (line frm : Int) (ws : List Wd), k ≤ s.size → 1 ≤ line → line ≤ k + 1 → (∀ x ∈ ws, 1 ≤ x.line ∧ x.line ≤ s.size + 1) → ∀ x ∈ tkF s n k line frm ws, 1 ≤ x.line ∧ x.line ≤ s.size + 1
  | 0, k, line, frm, ws, _, _, _, h => h
  | n + 1, k, line, frm, ws, hk, h1, h2, h => by
    unfold tkF
    split
    · rename_i hlt
      have h3 := stepW_at s k line frm ws hlt
      have h4 : 1 ≤ (stepW s k line frm ws).2.1 ∧ (stepW s k line frm ws).2.1 ≤ line + 1 := by
        unfold stepW
        split
        · simp only; omega
        · split
          · simp only; split <;> omega
          · split <;> (simp only; omega)
      refine tkF_line s n _ _ _ _ h3.2 h4.1 (by omega) ?_
      have he := endW_line s k line frm ws (s.size + 1) h h1 (by omega)
      unfold stepW
      split
      · exact he
      · split
        · exact he
        · split
          · intro x hx
            rcases List.mem_append.1 hx with hx | hx
            · exact he x hx
            · rw [List.mem_singleton.1 hx]
              exact ⟨h1, by simp only; omega⟩
          · exact h
    · intro x hx
      rcases List.mem_append.1 hx with hx | hx
      · exact endW_line s s.size line frm ws (s.size + 1) h h1 (by omega) x hx
      · rw [List.mem_singleton.1 hx]
        exact ⟨h1, by simp only; omega⟩
theorem words_line (s : ByteArray) : ∀ x ∈ wordsS s, 1 ≤ x.line ∧ x.line ≤ s.size + 1 := tkF_line s _ _ _ _ _ (Nat.zero_le _) (by omega) (by omega) (by simp)
theorem lines_l0 (x : ByteArray) (n : Nat) (hx : x.size ≤ 3000) (hn : n ≤ 100) : ∀ (d i k : Nat) (y : ByteArray), n - i = d → i ≤ n → d + 99 < k → y.size = x.size + i → Fa (fun a b => b = a + i ∧ 0 ≤ a ∧ a ≤ 5000) (wordsS x) (wordsS y) →
    pantrylaw09_ConfLines.l0 k x (n : Int) y (n : Int) (i : Int) = some true
  | _, _, 0, _, _, _, hk, _, _ => by omega
  | 0, i, k + 1, y, hd, hi, hk, hy, hw => by
    have hin : i = n := by omega
    subst hin
    unfold pantrylaw09_ConfLines.l0
    rw [if_neg (by omega)]
    obtain ⟨sites, code, la, lb, h1, h2, h3, h4⟩ := read_alk x y (by omega) (by omega) hw
    obtain ⟨g1, g2⟩ := read_len h1
    rw [h1, h2]
    simp only [Option.bind_some]
    rw [made_of sites (by omega) k (by omega)]
    simp only [Option.bind_some]
    rw [same_refl sites g1 g2 k (by omega)]
    simp only [Option.bind_some]
    by_cases hc : code = 0
    · obtain ⟨z1, z2⟩ := h3 hc
      subst z1 z2
      rw [if_pos hc, if_pos (by simp)]
    · obtain ⟨z1, z2⟩ := h4 hc
      rw [if_neg hc]
      have : wrap64 (la + (i : Int)) = lb := by unfold wrap64; omega
      rw [this, if_pos (by simp)]
  | d + 1, i, k + 1, y, hd, hi, hk, hy, hw => by
    unfold pantrylaw09_ConfLines.l0
    have hww : wrap64 ((i : Int) + 1) = ((i + 1 : Nat) : Int) := by unfold wrap64; omega
    rw [if_pos (by omega), if_pos (by omega), hww]
    refine lines_l0 x n hx hn d (i + 1) k _ (by omega) (by omega) (by omega) ?_ ?_
    · rw [ByteArray.size_append]
      show 1 + y.size = _
      omega
    · rw [words_nl]
      exact fa_map (Q := fun a b => b = a + 1) (shiftW 1) (fun _ => rfl) (fun _ => rfl) (fun a b c h1 h2 => ⟨by omega, h1.2⟩) hw
theorem lines_true (a0 : ByteArray) (a1 : Int) : ∃ k, pantrylaw09_ConfLines.f k a0 a1 = some true := by
  refine ⟨301, ?_⟩
  unfold pantrylaw09_ConfLines.f
  rw [pantrylaw09_anchor.yes, Option.bind_some, if_pos rfl]
  by_cases h1 : (a0.size : Int) > 3000
  · rw [if_pos h1, pantrylaw09_ConfLines.j0, if_pos rfl]
  · rw [if_neg h1]
    by_cases h2 : a1 < 0
    · rw [if_pos h2, pantrylaw09_ConfLines.j0, if_pos rfl]
    · rw [if_neg h2, pantrylaw09_ConfLines.j0]
      by_cases h3 : a1 > 100
      · rw [if_pos (decide_eq_true h3)]
      · rw [if_neg (by simpa using h3)]
        obtain ⟨n, rfl⟩ := Int.eq_ofNat_of_zero_le (show 0 ≤ a1 by omega)
        have := lines_l0 a0 n (by omega) (by omega) n 0 300 a0 rfl (Nat.zero_le _) (by omega) rfl ?_
        · exact this
        · exact fa_self (fun x hx => by have := words_line a0 x hx; omega)
end Go.Proofs.YtcoaajkhfgakgaaDoor.Pr
end

section
namespace Go.Proofs.YtcoaajkhfgakgaaDoor.Pr
open Go.RowKit Go.Proofs.YtcoaajkhfgakgaaDoorW.PrintWords Go.Proofs.YtcoaajkhfgakgaaDoorW.PrintLast Go.Proofs.YtcoaajkhfgakgaaDoorW.PrintMore
set_option linter.unusedVariables false
set_option linter.unusedSimpArgs false
theorem iface_cells {H : Type} {enc : TypeId × Value → H} {P : Program} {w : World} {base : Nat} {spare : Nat → Bool} {held : Bool} {fuel : Nat} {t : TypeId} {ms : Array (String × TypeId)} {cs : List Value} {nm : String} {d : DataW H} {q : List MemPlace}
    (ht : P.underlying t = some (.interface ms)) (h : DataW.trod enc P w base spare held fuel t cs = some (.iface nm d, q)) : ∃ u v, cs = [.iface u v] := by
  cases fuel with
  | zero => simp [DataW.trod] at h
  | succ n =>
    unfold DataW.trod at h
    rw [ht] at h
    match cs with
    | [] => simp at h
    | [c] =>
      cases c <;> simp at h
      exact ⟨_, _, rfl⟩
    | _ :: _ :: _ => simp at h
theorem gSyn : Tryd.prog.globalNamed "strconv.ErrSyntax" = some 4 := by kernel_rfl
theorem tSyn : (Tryd.prog.globals[4]?).map (·.type) = some 72 := by kernel_rfl
theorem gRng : Tryd.prog.globalNamed "strconv.ErrRange" = some 5 := by kernel_rfl
theorem tRng : (Tryd.prog.globals[5]?).map (·.type) = some 72 := by kernel_rfl
theorem gPow : Tryd.prog.globalNamed "internal/strconv.uint64pow10" = some 0 := by kernel_rfl
theorem tPow : (Tryd.prog.globals[0]?).map (·.type) = some 126 := by kernel_rfl
theorem cPow : Tryd.prog.cellsOf 126 = 20 := by kernel_rfl
theorem cU64 : Tryd.prog.cellsOf 113 = 1 := by kernel_rfl
theorem one_of {l : List (String × DataW Unit)} {W : World} (hn : (l.all fun x => x.2.handleName?.isNone) = true) (h : laidMetH Tryd.prog l W) (n : String) : laidMet Tryd.prog (l.filter fun x => x.1 == n) W := by
  have h1 := (laidMetH_iff.1 h).1
  have e : (l.filter fun x => x.2.handleName?.isNone) = l := List.filter_eq_self.2 (fun x hx => List.all_eq_true.1 hn x hx)
  rw [e] at h1
  exact h1.filter _
theorem err_of {W : World} {n : String} {g : Nat} {nm : String} {d : DataW Unit} (hg : Tryd.prog.globalNamed n = some g) (ht : (Tryd.prog.globals[g]?).map (·.type) = some 72) (h : laidMet Tryd.prog [(n, .iface nm d)] W) : ∃ tp p, W.var? Tryd.prog n = some #[.iface tp p] := by
  obtain ⟨ps, ⟨g', t', cs, fuel, p, q, hg', ht', hvar, hd, _, _⟩, _⟩ := h
  obtain rfl := Option.some.inj (hg.symm.trans hg')
  obtain rfl := Option.some.inj (ht.symm.trans ht')
  obtain ⟨u, v, hcs⟩ := iface_cells Tryd.underlying72 hd
  refine ⟨u, v, ?_⟩
  rw [hvar]
  congr 1
  exact Array.toList_inj.1 hcs
theorem gl_of_laid {W : World} (h : laidMetH Tryd.prog Rows.confFindsRow.laid W) : GL W := by
  have hn : (Rows.confFindsRow.laid.all fun x => x.2.handleName?.isNone) = true := by kernel_rfl
  exact ⟨err_of gSyn tSyn (one_of hn h "strconv.ErrSyntax"), err_of gRng tRng (one_of hn h "strconv.ErrRange"),
    Lib.tabIs_of_head (rest := []) gPow tPow Tryd.underlying126 Tryd.underlying113 cU64 cPow (one_of hn h "internal/strconv.uint64pow10")⟩
end Go.Proofs.YtcoaajkhfgakgaaDoor.Pr
end

section
namespace Go.Proofs.YtcoaajkhfgakgaaDoor.confLines
open Go.ChangeShapes Go.WideShapes Go.ChangeAt Go.RowKit
open Go.ChangeMaps (open_string shut_string)
set_option linter.unusedVariables false
theorem own : ownKnob Tryd.prog.godebug = none := by kernel_rfl
set_option maxRecDepth 100000 in
theorem lifted (os : Os) (started : os.Started) (H : Type) (enc : TypeId × Value → H) :
    ReturnsInHanded {} Tryd.checked os 6 .any (fun w args => (Rows.confLinesSpec.pre enc Tryd.prog Tryd.f6 [] false w args ∧ laidMetH Tryd.prog Rows.confLinesRow.laid w) ∧ sizedMet enc Tryd.prog Tryd.f6 (OpenSpec.ofChange Rows.confLinesSpec) false w args)
      (Rows.confLinesSpec.post enc Tryd.prog Tryd.f6 false true false false) := by
  refine returnsInHanded_of_change_and (C := Tryd.checked) (X := fun w _ => laidMetH Tryd.prog Rows.confLinesRow.laid w) (fun _ _ _ hh h => h.of_heap hh) own started (by kernel_rfl) Tryd.func6
    (ChangeSpec.witness_shaped (enc := enc) (C := Tryd.checked) (os := os) (X := fun w _ => laidMetH Tryd.prog Rows.confLinesRow.laid w) false (World.laidAll Tryd.prog os Rows.confLinesRow.laid) #[.string ByteArray.empty, .int .i64 0] 8 (World.laidAll_os _ _ _)
      (World.shaped_of_ZipB (by kernel_rfl) (by kernel_rfl)) (by kernel_rfl) (by kernel_rfl) (by kernel_rfl)
      (by rw [MakeChecks.laidMetH_plain _ _ _ (by kernel_rfl)]; exact laidMet_laidAll _ (by kernel_rfl) (by kernel_rfl))) ?_
  intro W base args ds gs before hval0 hW _ hsz0 hL _
  have hsz : (DataW.weightsEach Tryd.prog (Tryd.f6.params.toList ++ Rows.confLinesSpec.plain.varTypes Tryd.prog) (ds ++ gs)).all (· ≤ reachBytes) = true := hsz0
  have hval : ∀ (j : Nat) t v, Tryd.f6.params[j]? = some t → args[j]? = some v → Value.okWide Tryd.prog W .any base t v := hval0
  have hW' := hW
  obtain ⟨p, q, hA0, hV, rfl, hfz, hnd⟩ := hW
  have hA : DataW.TrodAll enc Tryd.prog W 0 (fun _ => true) true Tryd.f6.params.toList args.toList ds p := hA0
  rw [Tryd.params6] at hA hval hsz
  obtain ⟨v0, vs0, d0, ds0, p0, q0, hargs, rfl, rfl, h0, r0⟩ := trodAll_cons hA
  obtain ⟨v1, vs1, d1, ds1, p1, q1, rfl, rfl, rfl, h1, r1⟩ := trodAll_cons r0
  obtain ⟨rfl, rfl, rfl⟩ := trodAll_nil r1
  obtain rfl : args = #[v0, v1] := by cases args; simp_all
  obtain ⟨rfl, rfl⟩ := trodVars_none hV
  obtain ⟨a0, rfl, rfl, rfl, y0⟩ := open_string Tryd.underlying9 (hval 0 9 v0 rfl rfl) h0
  have w0 : a0.size ≤ 140737488351232 := by
    have z := sized_string hsz (j := 0) (t := 9) rfl rfl
    rw [Array.length_toList] at z
    exact z
  obtain ⟨a1, rfl, rfl, rfl, w1⟩ := open_int Tryd.underlying3 (hval 1 3 v1 rfl rfl) h1
  clear hA0 hval0 hsz0 hsz
  have hG : Pr.GL W := Pr.gl_of_laid hL
  obtain ⟨k, hk⟩ := Pr.lines_true a0 a1
  refine (Pr.pantrylaw09_ConfLines.calls k a0 a1 true W  hG hk).mono fun e W' ⟨he, bel⟩ => ?_
  subst he
  exact ⟨_, rfl, _, _, _, [], _, [], hW', trodAll_mk1 (shut_bool Tryd.underlying4 _), (trodAll_cons_mk (shut_string Tryd.underlying9 y0) (trodAll_cons_mk (shut_int Tryd.underlying3 w1) trodAll_mk0)), rfl, bel.frame _, fun h => by cases h⟩
theorem over : Rows.confLinesRow.holds Tryd.pinned (OpenSpec.ofChange Rows.confLinesSpec) :=
  OpenClaim.holds_of_wide 6 Tryd.f6 rfl rfl rfl rfl rfl rfl rfl ⟨rfl, rfl, rfl, rfl, rfl⟩ rfl rfl rfl rfl rfl (by kernel_rfl) Tryd.func6 (by kernel_rfl)
    (of_decide_eq_true (by kernel_rfl)) (by unfold Func.isWrapper; first | (rw [if_pos (by decide +kernel)]; kernel_rfl) | (rw [if_neg (by decide +kernel)]; exact ⟨rfl, rfl⟩))
    (fun os started H enc _ => lifted os started H enc)
end Go.Proofs.YtcoaajkhfgakgaaDoor.confLines
namespace Go.Proofs.YtcoaajkhfgakgaaDoor
theorem confLines_row : Rows.ConfLinesSaid := confLines.over
theorem confLines_holds : Rows.ConfLinesCardSaid :=
  Claim7.holds_tied_plain_at .later [] Rows.confLinesCard.laidKinds true Rows.confLinesCard.stood.harness true
    confLines_row (fun _ h => by cases h) (by kernel_rfl) (fun _ h => by cases h) confLines_row_tie rfl ⟨rfl, rfl⟩ (by kernel_rfl) rfl
    (fun f fn hf hfn => by
      obtain rfl : f = 6 := Option.some.inj ((show Tryd.prog.funcNamed "pantry/pantrylaw09.ConfLines" = some 6 by kernel_rfl).symm.trans hf) |>.symm
      obtain rfl : fn = Tryd.f6 := (Option.some.inj (Tryd.func6.symm.trans hfn)).symm
      exact ⟨by kernel_rfl, fun j t ht => by
        rw [Tryd.params6] at ht
        have hm : t ∈ [9, 3] := by simpa using Array.mem_of_getElem? ht
        have hall : ([9, 3].all fun u => !Tryd.prog.wantsStandIn u) = true := by kernel_rfl
        exact (show Tryd.prog.wantsStandIn t = false by simpa using List.all_eq_true.1 hall t hm)⟩)
    (by kernel_rfl)
#print axioms confLines_holds
end Go.Proofs.YtcoaajkhfgakgaaDoor
end
