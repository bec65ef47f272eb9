/- Part 10 of the proof of Turns: what the program's functions compute, and that it is so. Conditions: as each theorem states. (Packed out of our texts: XLaid, XOpen, XOpens, XRowTurns.) -/
import Derived.Test.YtcoaajkhfgakgaaGreatDoorCTurns9
import Derived.Test.YtcoaajkhfgakgaaGreatDoorRows
import Derived.Lib.LaidTab
import Derived.LaidSub
import Derived.SizedLaws
import Derived.ChangeSlices
import Derived.ChangeArms
import Derived.WideShapes
import Derived.Test.YtcoaajkhfgakgaaGreatDoorTie
import Derived.Test.YtcoaajkhfgakgaaGreatDoorCards
import Derived.ProofKit
import Derived.OpenShut
import Derived.ShutString
import Derived.ChangeOld
import Derived.Below
import Derived.LaidMore
import Derived.Lay
import Derived.SevenTiedAt
import Derived.Stop.Joined
section
namespace Go.Proofs.YtcoaajkhfgakgaaGreatDoor.Pr
open Go.RowKit Go.Proofs.YtcoaajkhfgakgaaGreatDoorW.PrintWords Go.Proofs.YtcoaajkhfgakgaaGreatDoorW.PrintLast Go.Proofs.YtcoaajkhfgakgaaGreatDoorW.PrintMore
set_option linter.unusedVariables false
set_option linter.unusedSimpArgs false
theorem iface_cells {H : Type} {enc : TypeId × Value → H} {P : Program} {w : World} {base : Nat} {spare : Nat → Bool} {held : Bool} {fuel : Nat} {t : TypeId} {ms : Array (String × TypeId)} {cs : List Value} {nm : String} {d : DataW H} {q : List MemPlace}
    (ht : P.underlying t = some (.interface ms)) (h : DataW.trod enc P w base spare held fuel t cs = some (.iface nm d, q)) : ∃ u v, cs = [.iface u v] := by
  cases fuel with
  | zero => simp [DataW.trod] at h
  | succ n =>
    unfold DataW.trod at h
    rw [ht] at h
    match cs with
    | [] => simp at h
    | [c] =>
      cases c <;> simp at h
      exact ⟨_, _, rfl⟩
    | _ :: _ :: _ => simp at h
theorem gSyn : Tryz.prog.globalNamed "strconv.ErrSyntax" = some 4 := by kernel_rfl
theorem tSyn : (Tryz.prog.globals[4]?).map (·.type) = some 115 := by kernel_rfl
theorem gRng : Tryz.prog.globalNamed "strconv.ErrRange" = some 5 := by kernel_rfl
theorem tRng : (Tryz.prog.globals[5]?).map (·.type) = some 115 := by kernel_rfl
theorem gPow : Tryz.prog.globalNamed "internal/strconv.uint64pow10" = some 1 := by kernel_rfl
theorem tPow : (Tryz.prog.globals[1]?).map (·.type) = some 196 := by kernel_rfl
theorem cPow : Tryz.prog.cellsOf 196 = 20 := by kernel_rfl
theorem cU64 : Tryz.prog.cellsOf 176 = 1 := by kernel_rfl
theorem one_of {l : List (String × DataW Unit)} {W : World} (hn : (l.all fun x => x.2.handleName?.isNone) = true) (h : laidMetH Tryz.prog l W) (n : String) : laidMet Tryz.prog (l.filter fun x => x.1 == n) W := by
  have h1 := (laidMetH_iff.1 h).1
  have e : (l.filter fun x => x.2.handleName?.isNone) = l := List.filter_eq_self.2 (fun x hx => List.all_eq_true.1 hn x hx)
  rw [e] at h1
  exact h1.filter _
theorem err_of {W : World} {n : String} {g : Nat} {nm : String} {d : DataW Unit} (hg : Tryz.prog.globalNamed n = some g) (ht : (Tryz.prog.globals[g]?).map (·.type) = some 115) (h : laidMet Tryz.prog [(n, .iface nm d)] W) : ∃ tp p, W.var? Tryz.prog n = some #[.iface tp p] := by
  obtain ⟨ps, ⟨g', t', cs, fuel, p, q, hg', ht', hvar, hd, _, _⟩, _⟩ := h
  obtain rfl := Option.some.inj (hg.symm.trans hg')
  obtain rfl := Option.some.inj (ht.symm.trans ht')
  obtain ⟨u, v, hcs⟩ := iface_cells Tryz.underlying115 hd
  refine ⟨u, v, ?_⟩
  rw [hvar]
  congr 1
  exact Array.toList_inj.1 hcs
theorem gl_of_laid {l : List (String × DataW Unit)} {W : World} (h : laidMetH Tryz.prog l W) (hn : (l.all fun x => x.2.handleName?.isNone) = true)
    (e1 : (l.filter fun x => x.1 == "strconv.ErrSyntax") = [("strconv.ErrSyntax", Rows.laid_strconv_ErrSyntax)]) (e2 : (l.filter fun x => x.1 == "strconv.ErrRange") = [("strconv.ErrRange", Rows.laid_strconv_ErrRange)])
    (e3 : (l.filter fun x => x.1 == "internal/strconv.uint64pow10") = [("internal/strconv.uint64pow10", Rows.laid_internal_strconv_uint64pow10)]) : GL W := by
  have h1 := one_of hn h "strconv.ErrSyntax"
  have h2 := one_of hn h "strconv.ErrRange"
  have h3 := one_of hn h "internal/strconv.uint64pow10"
  rw [e1] at h1
  rw [e2] at h2
  rw [e3] at h3
  exact ⟨err_of gSyn tSyn h1, err_of gRng tRng h2, Lib.tabIs_of_head (rest := []) gPow tPow Tryz.underlying196 Tryz.underlying176 cU64 cPow h3⟩
end Go.Proofs.YtcoaajkhfgakgaaGreatDoor.Pr
end

section
namespace Go.Proofs.YtcoaajkhfgakgaaGreatDoor.Pr
open Go.RowKit Go.Proofs.YtcoaajkhfgakgaaGreatDoorW.PrintWords Go.Proofs.YtcoaajkhfgakgaaGreatDoorW.PrintLast Go.Proofs.YtcoaajkhfgakgaaGreatDoorW.PrintMore
set_option linter.unusedVariables false
set_option linter.unusedSimpArgs false
def Opens (P : Program) (t : TypeId) {α : Type} (d : Kd α) (Q : α → Prop) : Prop :=
  ∀ ⦃H : Type⦄ ⦃enc : TypeId × Value → H⦄ ⦃w : World⦄ ⦃base : Nat⦄ ⦃spare : Nat → Bool⦄ ⦃held : Bool⦄ ⦃fuel : Nat⦄ ⦃cs : List Value⦄ ⦃x : DataW H × List MemPlace⦄,
    DataW.trod enc P w base spare held fuel t cs = some x → (x.1.weights P t).all (· ≤ reachBytes) = true → ∃ y, d.K w y cs ∧ Q y
theorem addr_add_add (a : Addr) (m i : Nat) : (a.add m).add i = a.add (m + i) := by
  unfold Addr.add
  by_cases h1 : m = 0
  · subst h1; simp
  · by_cases h2 : i = 0
    · subst h2; simp [h1]
    · have h3 : ¬ m + i = 0 := by omega
      rw [if_neg h1, if_neg h2, if_neg h3, Nat.add_assoc]
theorem opens_string {P : Program} {t : TypeId} (ht : P.underlying t = some .string) : Opens P t Kd.string (fun s => s.size ≤ 140737488351232) := by
  intro H enc w base spare held fuel cs x h hw
  obtain ⟨s, rfl, rfl, _⟩ := DataW.trod_string ht h
  refine ⟨s, rfl, ?_⟩
  have : s.data.toList.length ≤ reachBytes := by simpa [DataW.weights] using hw
  rw [Array.length_toList] at this
  exact this
theorem opens_int {P : Program} {t : TypeId} {k : IntKind} (ht : P.underlying t = some (.int k)) : Opens P t (Kd.int k) (fun n => (Lit.int k n).wf = true) := by
  intro H enc w base spare held fuel cs x h hw
  obtain ⟨n, rfl, rfl, hn⟩ := DataW.trod_int ht h
  exact ⟨n, rfl, hn⟩
theorem opens_bool {P : Program} {t : TypeId} (ht : P.underlying t = some .bool) : Opens P t Kd.bool (fun _ => True) := by
  intro H enc w base spare held fuel cs x h hw
  obtain ⟨b, rfl, rfl⟩ := DataW.trod_bool ht h
  exact ⟨b, rfl, trivial⟩
theorem weights_all {H : Type} {P : Program} {e : TypeId} {B : Nat} : ∀ {l : List (DataW H)}, (DataW.weightsAll P e l).all (· ≤ B) = true → ∀ d ∈ l, (d.weights P e).all (· ≤ B) = true
  | [], _, d, hd => by cases hd
  | x :: l, h, d, hd => by
    unfold DataW.weightsAll at h
    rw [List.all_append, Bool.and_eq_true] at h
    rcases List.mem_cons.1 hd with rfl | hd
    · exact h.1
    · exact weights_all h.2 d hd
theorem opens_slice {P : Program} {t e : TypeId} {α : Type} {d : Kd α} {Q : α → Prop} {B : Nat} (ht : P.underlying t = some (.slice e)) (hc : P.cellsOf e = d.sz) (hB : P.bytesOf e = B) (he : Opens P e d Q) :
    Opens P t (Kd.slice e d) (fun ys => ys.length * B ≤ 140737488351232 ∧ ∀ y ∈ ys, Q y) := by
  intro H enc w base spare held fuel cs x h hw
  rcases DataW.trod_slice ht h with ⟨rfl, rfl⟩ | ⟨a, len, cap, elems, rest, n, rfl, rfl, rfl, hb, hlc, hcm, hlen, hel, _, _⟩
  · exact ⟨[], ⟨none, 0, rfl, Nat.le_refl _, ⟨rfl, by simp, fun h => absurd h (by simp)⟩⟩, by simp⟩
  · have hz : ∀ i : Fin len, ∃ y, (∃ c, w.cells? base (a.add (i.1 * P.cellsOf e)) (P.cellsOf e) = some c ∧ d.K w y c) ∧ Q y := fun i => by
      have h1 := hel i.1 i.2
      have hi : i.1 < elems.length := by rw [hlen]; exact i.2
      rw [List.getElem?_eq_getElem hi] at h1
      obtain ⟨c, h2, h3⟩ := Option.bind_eq_some_iff.1 h1
      have h4 : ((elems[i.1]).1.weights P e).all (· ≤ reachBytes) = true := by
        simp only [DataW.weights, ht, List.all_cons, List.all_append, Bool.and_eq_true] at hw
        exact weights_all hw.2.1 _ (List.mem_map.2 ⟨elems[i.1], List.getElem_mem hi, rfl⟩)
      obtain ⟨y, hy, hq⟩ := he h3 h4
      exact ⟨y, ⟨c, h2, hy⟩, hq⟩
    have hch := fun i => Classical.choose_spec (hz i)
    have hlast : (elems.length + rest.length) * B ≤ 140737488351232 := by
      simp only [DataW.weights, ht, hB, List.all_cons, Bool.and_eq_true, List.length_map, decide_eq_true_eq] at hw
      exact hw.1
    refine ⟨List.ofFn fun i => Classical.choose (hz i), ⟨some a, cap, by rw [List.length_ofFn], by rw [List.length_ofFn]; exact hlc, ⟨rfl, ?_, fun h0 => ⟨a, rfl, fun j p hj => ?_⟩⟩⟩, ?_, ?_⟩
    · rw [List.length_ofFn]
      unfold maxLen at hcm
      omega
    · rw [List.getElem?_ofFn] at hj
      split at hj
      · rename_i hlt
        injection hj with hj
        subst hj
        obtain ⟨⟨c, h2, h3⟩, _⟩ := hch ⟨j, hlt⟩
        obtain ⟨_, h5, h6⟩ := World.cells?_some h2
        refine ⟨c, by rw [h5, hc], h3, fun i u hu => ?_⟩
        have hi : i < P.cellsOf e := by rw [← h5]; exact (List.getElem?_eq_some_iff.1 hu).1
        have h7 := h6 i hi
        rw [hu] at h7
        rw [← h7]
        rw [addr_add_add, hc]
      · cases hj
    · rw [List.length_ofFn]
      refine Nat.le_trans (Nat.mul_le_mul_right _ ?_) hlast
      omega
    · intro y hy
      obtain ⟨i, rfl⟩ := List.mem_ofFn.1 hy
      exact (hch i).2
def OpenF (P : Program) (fs : List (Nat × TypeId)) (start : Nat) {α : Type} (d : Kd α) (Q : α → Prop) : Prop :=
  ∀ ⦃H : Type⦄ ⦃enc : TypeId × Value → H⦄ ⦃w : World⦄ ⦃base : Nat⦄ ⦃spare : Nat → Bool⦄ ⦃held : Bool⦄ ⦃n : Nat⦄ ⦃cs : List Value⦄ ⦃xs : List (DataW H × List MemPlace)⦄,
    xs.length = fs.length → (∀ (i : Nat) (f : Nat × TypeId), fs[i]? = some f → DataW.trod enc P w base spare held n f.2 ((cs.drop f.1).take (P.cellsOf f.2)) = xs[i]?) →
    (DataW.weightsEach P (fs.map (·.2)) (xs.map (·.1))).all (· ≤ reachBytes) = true → ∃ y, d.K w y ((cs.drop start).take d.sz) ∧ Q y
theorem openF_one {P : Program} {t : TypeId} {α : Type} {d : Kd α} {Q : α → Prop} {start : Nat} (hc : P.cellsOf t = d.sz) (h : Opens P t d Q) : OpenF P [(start, t)] start d Q := by
  intro H enc w base spare held n cs xs hl hx hw
  match xs, hl with
  | [x], _ =>
    have h1 := hx 0 (start, t) rfl
    rw [hc] at h1
    refine h (x := x) h1 ?_
    simpa [DataW.weightsEach] using hw
theorem openF_cons {P : Program} {t : TypeId} {fs : List (Nat × TypeId)} {α β : Type} {d : Kd α} {d' : Kd β} {Q : α → Prop} {Q' : β → Prop} {start : Nat} (hc : P.cellsOf t = d.sz) (h : Opens P t d Q) (h' : OpenF P fs (start + d.sz) d' Q') :
    OpenF P ((start, t) :: fs) start (Kd.pair d d') (fun y => Q y.1 ∧ Q' y.2) := by
  intro H enc w base spare held n cs xs hl hx hw
  match xs, hl with
  | x :: xs, hl =>
    have h1 := hx 0 (start, t) rfl
    rw [hc] at h1
    simp only [List.map_cons, DataW.weightsEach, List.all_append, Bool.and_eq_true] at hw
    obtain ⟨y, hy, hq⟩ := h (x := x) h1 hw.1
    obtain ⟨y', hy', hq'⟩ := h' (xs := xs) (by simpa using hl) (fun i f hf => hx (i + 1) f hf) hw.2
    refine ⟨(y, y'), ⟨_, _, ?_, hy, hy'⟩, hq, hq'⟩
    show (cs.drop start).take (d.sz + d'.sz) = _
    rw [List.take_add, List.drop_drop]
theorem opens_struct {P : Program} {t : TypeId} {fs : Array Field} {L : List (Nat × TypeId)} {α : Type} {d : Kd α} {Q : α → Prop} (ht : P.underlying t = some (.struct fs)) (hL : fs.toList.map (fun f => (f.offset, f.type)) = L) (hc : P.cellsOf t = d.sz) (h : OpenF P L 0 d Q) : Opens P t d Q := by
  intro H enc w base spare held fuel cs x hx hw
  obtain ⟨xs, n, rfl, rfl, hcs, hxs, hel⟩ := DataW.trod_struct ht hx
  subst hL
  obtain ⟨y, hy, hq⟩ := h (enc := enc) (w := w) (base := base) (spare := spare) (held := held) (n := n) (cs := cs) (xs := xs) (by simpa using hxs) (fun i f hf => by
    rw [List.getElem?_map] at hf
    obtain ⟨g, hg, rfl⟩ := Option.map_eq_some_iff.1 hf
    rw [Array.getElem?_toList] at hg
    exact hel i g hg) (by
    simp only [DataW.weights, ht] at hw
    rw [List.map_map]
    exact hw)
  refine ⟨y, ?_, hq⟩
  rwa [List.drop_zero, ← hc, ← hcs, List.take_length] at hy
theorem opens_iso {P : Program} {t : TypeId} {α β : Type} {d : Kd α} {Q : α → Prop} {f : β → α} (g : α → β) (hg : ∀ y, f (g y) = y) (h : Opens P t d Q) : Opens P t (Kd.iso d f) (fun x => Q (f x)) := by
  intro H enc w base spare held fuel cs x hx hw
  obtain ⟨y, hy, hq⟩ := h hx hw
  exact ⟨g y, by show d.K w (f (g y)) cs; rw [hg]; exact hy, by show Q (f (g y)); rw [hg]; exact hq⟩
end Go.Proofs.YtcoaajkhfgakgaaGreatDoor.Pr
end

section
namespace Go.Proofs.YtcoaajkhfgakgaaGreatDoor.Pr
open Go.RowKit Go.Proofs.YtcoaajkhfgakgaaGreatDoorW.PrintWords Go.Proofs.YtcoaajkhfgakgaaGreatDoorW.PrintLast Go.Proofs.YtcoaajkhfgakgaaGreatDoorW.PrintMore
set_option linter.unusedVariables false
set_option linter.unusedSimpArgs false
theorem Opens.weak {P : Program} {t : TypeId} {α : Type} {d : Kd α} {Q Q' : α → Prop} (h : Opens P t d Q) (hq : ∀ y, Q y → Q' y) : Opens P t d Q' := by
  intro H enc w base spare held fuel cs x hx hw
  obtain ⟨y, h1, h2⟩ := h hx hw
  exact ⟨y, h1, hq y h2⟩
theorem cellsStr : Tryz.prog.cellsOf 9 = 1 := by kernel_rfl
theorem cellsInt : Tryz.prog.cellsOf 3 = 1 := by kernel_rfl
theorem cellsBool : Tryz.prog.cellsOf 4 = 1 := by kernel_rfl
theorem cellsStrs : Tryz.prog.cellsOf 50 = 1 := by kernel_rfl
theorem cellsSite : Tryz.prog.cellsOf 52 = 7 := by kernel_rfl
theorem cellsSites : Tryz.prog.cellsOf 22 = 1 := by kernel_rfl
theorem cellsConfig : Tryz.prog.cellsOf 24 = 1 := by kernel_rfl
theorem bytesStr : Tryz.prog.bytesOf 9 = 16 := by kernel_rfl
theorem bytesSite : Tryz.prog.bytesOf 52 = 72 := by kernel_rfl
theorem opensStr : Opens Tryz.prog 9 Kd.string (fun s => s.size ≤ 140737488351232) := opens_string Tryz.underlying9
theorem opensInt : Opens Tryz.prog 3 (Kd.int .i64) (fun n => -9223372036854775808 ≤ n ∧ n ≤ 9223372036854775807) :=
  (opens_int Tryz.underlying3).weak (fun n h => by simpa [Lit.wf, IntKind.min, IntKind.max, IntKind.signed, IntKind.bits] using h)
theorem opensBool : Opens Tryz.prog 4 Kd.bool (fun _ => True) := opens_bool Tryz.underlying4
theorem opensStrs : Opens Tryz.prog 50 (Kd.slice 9 Kd.string) (fun l => l.length ≤ 8796093022208 ∧ ∀ s ∈ l, s.size ≤ 140737488351232) :=
  (opens_slice Tryz.underlying50 cellsStr bytesStr opensStr).weak (fun l h => ⟨by have := h.1; omega, h.2⟩)
def SiteFits (x : S52) : Prop := x.f0.size ≤ 140737488351232 ∧ (-9223372036854775808 ≤ x.f1 ∧ x.f1 ≤ 9223372036854775807) ∧ (-9223372036854775808 ≤ x.f2 ∧ x.f2 ≤ 9223372036854775807) ∧ (-9223372036854775808 ≤ x.f3 ∧ x.f3 ≤ 9223372036854775807) ∧ x.f6.length ≤ 8796093022208 ∧ ∀ s ∈ x.f6, s.size ≤ 140737488351232
theorem opensSite : Opens Tryz.prog 52 k52 SiteFits :=
  (opens_iso (f := fun x : S52 => (x.f0, x.f1, x.f2, x.f3, x.f4, x.f5, x.f6)) (fun y => ⟨y.1, y.2.1, y.2.2.1, y.2.2.2.1, y.2.2.2.2.1, y.2.2.2.2.2.1, y.2.2.2.2.2.2⟩) (fun _ => rfl)
    (opens_struct Tryz.underlying52 (L := [(0, 9), (1, 3), (2, 3), (3, 3), (4, 4), (5, 4), (6, 50)]) rfl cellsSite
      (openF_cons cellsStr opensStr (openF_cons cellsInt opensInt (openF_cons cellsInt opensInt (openF_cons cellsInt opensInt (openF_cons cellsBool opensBool (openF_cons cellsBool opensBool (openF_one cellsStrs opensStrs))))))))).weak
    (fun x h => ⟨h.1, h.2.1, h.2.2.1, h.2.2.2.1, h.2.2.2.2.2.2.1, h.2.2.2.2.2.2.2⟩)
theorem opensSites : Opens Tryz.prog 22 (Kd.slice 52 k52) (fun l => l.length ≤ 1954687338378 ∧ ∀ x ∈ l, SiteFits x) :=
  (opens_slice Tryz.underlying22 cellsSite bytesSite opensSite).weak (fun l h => ⟨by have := h.1; omega, h.2⟩)
theorem opensConfig : Opens Tryz.prog 24 (Kd.slice 52 k52) (fun l => l.length ≤ 1954687338378 ∧ ∀ x ∈ l, SiteFits x) :=
  opens_struct Tryz.underlying24 (L := [(0, 22)]) rfl cellsConfig (openF_one cellsSites opensSites)
set_option maxRecDepth 100000 in
theorem arg_config {H : Type} {enc : TypeId × Value → H} {W : World} {base b0 : Nat} {spare : Nat → Bool} {held : Bool} {r : Reach} {v : Value} {x : DataW H} {ps : List MemPlace} {ts : List TypeId} {ds : List (DataW H)} {j : Nat}
    (hv : Value.okWide Tryz.prog W r b0 24 v) (h : DataW.Trod enc Tryz.prog W base spare held 24 v x ps) (hsz : (DataW.weightsEach Tryz.prog ts ds).all (· ≤ reachBytes) = true) (h1 : ts[j]? = some 24) (h2 : ds[j]? = some x) :
    ∃ (l : List S52) (A : Option Addr) (c : Nat), v = .agg #[.slice A l.length c] ∧ l.length ≤ c ∧ Kd.C k52 W A l.length l ∧ l.length ≤ 1954687338378 ∧ ∀ x ∈ l, SiteFits x := by
  obtain ⟨cs, hv2, _⟩ := WideShapes.okWide_struct Tryz.underlying24 hv
  subst hv2
  obtain ⟨fuel, hf⟩ := h
  obtain ⟨l, hK, hq⟩ := opensConfig hf (List.all_eq_true.2 (fun n hn => List.all_eq_true.1 hsz n (DataW.weights_mem_each h1 h2 n hn)))
  have hK : ∃ A c, cs.toList = [.slice A l.length c] ∧ l.length ≤ c ∧ Kd.C k52 W A l.length l := hK
  obtain ⟨A, c, hcs, hlc, hC⟩ := hK
  have e : Value.agg cs = .agg #[.slice A l.length c] := by
    congr 1
    exact Array.toList_inj.1 hcs
  exact ⟨l, A, c, e, hlc, hC, hq.1, hq.2⟩
end Go.Proofs.YtcoaajkhfgakgaaGreatDoor.Pr
end

section
namespace Go.Proofs.YtcoaajkhfgakgaaGreatDoor.planTurns
open Go.ChangeShapes Go.WideShapes Go.ChangeAt Go.RowKit
open Go.ChangeMaps (open_string shut_string)
set_option linter.unusedVariables false
theorem laidOut : laidOutB Tryz.prog = true := by kernel_rfl
theorem own : ownKnob Tryz.prog.godebug = none := by kernel_rfl
set_option maxRecDepth 100000 in
theorem lifted (os : Os) (started : os.Started) (H : Type) (enc : TypeId × Value → H) :
    ReturnsInHanded {} Tryz.checked os 4 .any (fun w args => (Rows.planTurnsSpec.pre enc Tryz.prog Tryz.f4 [] false w args ∧ laidMetH Tryz.prog Rows.planTurnsRow.laid w) ∧ sizedMet enc Tryz.prog Tryz.f4 (OpenSpec.ofChange Rows.planTurnsSpec) false w args)
      (Rows.planTurnsSpec.post enc Tryz.prog Tryz.f4 false true false false) := by
  refine returnsInHanded_of_change_and (C := Tryz.checked) (X := fun w _ => laidMetH Tryz.prog Rows.planTurnsRow.laid w) (fun _ _ _ hh h => h.of_heap hh) own started (by kernel_rfl) Tryz.func4
    (ChangeSpec.witness_shaped (enc := enc) (C := Tryz.checked) (os := os) (X := fun w _ => laidMetH Tryz.prog Rows.planTurnsRow.laid w) false (World.laidAll Tryz.prog os Rows.planTurnsRow.laid) #[.agg #[.slice none 0 0], .agg #[.slice none 0 0]] 8 (World.laidAll_os _ _ _)
      (World.shaped_of_ZipB (by kernel_rfl) (by kernel_rfl)) (by kernel_rfl) (by kernel_rfl) (by kernel_rfl)
      (by rw [MakeChecks.laidMetH_plain _ _ _ (by kernel_rfl)]; exact laidMet_laidAll _ (by kernel_rfl) (by kernel_rfl))) ?_
  intro W base args ds gs before hval0 hW _ hsz0 hL _
  have hsz : (DataW.weightsEach Tryz.prog (Tryz.f4.params.toList ++ Rows.planTurnsSpec.plain.varTypes Tryz.prog) (ds ++ gs)).all (· ≤ reachBytes) = true := hsz0
  have hval : ∀ (j : Nat) t v, Tryz.f4.params[j]? = some t → args[j]? = some v → Value.okWide Tryz.prog W .any base t v := hval0
  have hW' := hW
  obtain ⟨p, q, hA0, hV, rfl, hfz, hnd⟩ := hW
  have hA : DataW.TrodAll enc Tryz.prog W 0 (fun _ => true) true Tryz.f4.params.toList args.toList ds p := hA0
  rw [Tryz.params4] at hA hval hsz
  obtain ⟨v0, vs0, d0, ds0, p0, q0, hargs, rfl, rfl, h0, r0⟩ := trodAll_cons hA
  obtain ⟨v1, vs1, d1, ds1, p1, q1, rfl, rfl, rfl, h1, r1⟩ := trodAll_cons r0
  obtain ⟨rfl, rfl, rfl⟩ := trodAll_nil r1
  obtain rfl : args = #[v0, v1] := by cases args; simp_all
  obtain ⟨rfl, rfl⟩ := trodVars_none hV
  have lt0 : ∀ x ∈ p0, x.block < W.heap.size := by obtain ⟨m, hm⟩ := h0; exact DataW.trod_lt m _ _ _ hm
  obtain ⟨l0, A0, c0, ev0, lc0, hr0, ln0, hf0⟩ := Pr.arg_config (j := 0) (hval 0 24 v0 rfl rfl) h0 hsz rfl rfl
  subst ev0
  have lt1 : ∀ x ∈ p1, x.block < W.heap.size := by obtain ⟨m, hm⟩ := h1; exact DataW.trod_lt m _ _ _ hm
  obtain ⟨l1, A1, c1, ev1, lc1, hr1, ln1, hf1⟩ := Pr.arg_config (j := 1) (hval 1 24 v1 rfl rfl) h1 hsz rfl rfl
  subst ev1
  clear hA0 hval0 hsz0 hsz
  have hG : Pr.GL W := Pr.gl_of_laid hL (by kernel_rfl) (by kernel_rfl) (by kernel_rfl) (by kernel_rfl)
  obtain ⟨k, hk⟩ := Pr.turns_true l0 l1 (by omega) (fun x hx => (hf0 x hx).2.2.2.2.1) (by omega) (fun x hx => (hf1 x hx).2.2.2.2.1)
  refine (Pr.pantrylaw10_PlanTurns.calls k A0 c0 l0 A1 c1 l1 true ⟨rfl⟩ W hr0 lc0 hr1 lc1 hG hk).mono fun e W' ⟨he, bel⟩ => ?_
  subst he
  exact ⟨_, rfl, _, _, _, [], _, [], hW', trodAll_mk1 (shut_bool Tryz.underlying4 _), (trodAll_cons_mk (Below.trod laidOut (by kernel_rfl) (of_decide_eq_true (by kernel_rfl)) h0 bel lt0) (trodAll_cons_mk (Below.trod laidOut (by kernel_rfl) (of_decide_eq_true (by kernel_rfl)) h1 bel lt1) trodAll_mk0)), rfl, bel.frame _, fun h => by cases h⟩
theorem over : Rows.planTurnsRow.holds Tryz.pinned (OpenSpec.ofChange Rows.planTurnsSpec) :=
  OpenClaim.holds_of_wide 4 Tryz.f4 rfl rfl rfl rfl rfl rfl rfl ⟨rfl, rfl, rfl, rfl, rfl⟩ rfl rfl rfl rfl rfl (by kernel_rfl) Tryz.func4 (by kernel_rfl)
    (of_decide_eq_true (by kernel_rfl)) (by unfold Func.isWrapper; first | (rw [if_pos (by decide +kernel)]; kernel_rfl) | (rw [if_neg (by decide +kernel)]; exact ⟨rfl, rfl⟩))
    (fun os started H enc _ => lifted os started H enc)
end Go.Proofs.YtcoaajkhfgakgaaGreatDoor.planTurns
namespace Go.Proofs.YtcoaajkhfgakgaaGreatDoor
theorem planTurns_row : Rows.PlanTurnsSaid := planTurns.over
theorem planTurns_holds : Rows.PlanTurnsCardSaid :=
  Claim7.holds_tied_plain_at .later [] Rows.planTurnsCard.laidKinds true Rows.planTurnsCard.stood.harness true
    planTurns_row (fun _ h => by cases h) (by kernel_rfl) (fun _ h => by cases h) planTurns_row_tie rfl ⟨rfl, rfl⟩ (by kernel_rfl) rfl
    (fun f fn hf hfn => by
      obtain rfl : f = 4 := Option.some.inj ((show Tryz.prog.funcNamed "pantry/pantrylaw10.PlanTurns" = some 4 by kernel_rfl).symm.trans hf) |>.symm
      obtain rfl : fn = Tryz.f4 := (Option.some.inj (Tryz.func4.symm.trans hfn)).symm
      exact ⟨by kernel_rfl, fun j t ht => by
        rw [Tryz.params4] at ht
        have hm : t ∈ [24, 24] := by simpa using Array.mem_of_getElem? ht
        have hall : ([24, 24].all fun u => !Tryz.prog.wantsStandIn u) = true := by kernel_rfl
        exact (show Tryz.prog.wantsStandIn t = false by simpa using List.all_eq_true.1 hall t hm)⟩)
    (by kernel_rfl)
#print axioms planTurns_holds
end Go.Proofs.YtcoaajkhfgakgaaGreatDoor
end
