/- Part 1 of the proof of Lines: what the program's functions compute, and that it is so. Conditions: as each theorem states. (Packed out of our texts: XBase, XWords, XReader, PK, Shelf, XGL, PF41, PF76, XIndexByte, PF63, XLower, PF50, XIndexLite, PF54, PF40, PF55, XOnly, XTrimLeft.) -/
import Derived.Test.YtcoaajkhfgakgaaDoorCLines0
import Derived.Test.YtcoaajkhfgakgaaDoorProg
import Derived.Below
import Derived.Deep.Draws
import Derived.Deep.AppendLies
import Derived.Maps.AppendAt
import Derived.OwnWalk
import Derived.Laws.BytesArg
import Derived.Laws.MakeOwn
import Derived.Laws.OwnMore
import Derived.Deep.OwnRows
import Derived.Tactics
import Derived.Lib.ConvBytes
import Derived.Laws.Slices
import Derived.WalkKit
import Derived.KernelRfl
import Derived.RowKit3
import Derived.Deep.LoopGhost
import Derived.Deep.QuietTactic
import Derived.BigQuiet
import Derived.WideLaws
import Derived.Deep.DeepCutAuto
import Derived.Deep.CutBlock
import Derived.Deep.RegionHeld3
import Derived.Laws.Rows
import Derived.Lib.AppendStr
import Derived.ArgAppend
import Derived.Laws.IdiomCopy
import Derived.OrdersHeld
import Derived.Laws.BitsLemmas
import Derived.RowKit
import Derived.Deep.RegionLaw
import Derived.BigRegion
import Derived.Deep.DrawnRows
import Derived.Lib.Strings
import Derived.Shelf.Strings.Builder1
import Derived.Shelf.Strings.Builder2
import Derived.Shelf.Strings.OnBuilder
import Derived.Shelf.Strings.Trim
import Derived.Shelf.Small.Utf8
import Derived.Shelf.Small.Strs
import Derived.Shelf.Strings.BuilderF
import Derived.Shelf.Strings.BuilderK
import Derived.Shelf.Strings.Builder2Cap
import Derived.Shelf.Strconv.Atoi
import Derived.Shelf.Strconv.Itoa0
import Derived.Shelf.Strconv.Itoa1
import Derived.Shelf.LaysM
import Derived.Shelf.Strconv.Itoa2
import Derived.Shelf.Strconv.Itoa3
import Derived.Shelf.Strconv.AtoiErrFast
import Derived.Shelf.Strconv.ParseIntEmpty
import Derived.Shelf.Strconv.AtoiFail
import Derived.Shelf.Strconv.Clone
import Derived.Shelf.Strconv.SyntaxError
import Derived.Shelf.LaysC
import Derived.Shelf.Strconv.ToError
import Derived.Shelf.Strconv.Lower
import Derived.Shelf.Strconv.ParseUint10
import Derived.Shelf.Strconv.ParseUint10Empty
import Derived.Shelf.Strconv.ParseUint10Any
import Derived.Shelf.Strconv.ParseInt10
import Derived.Shelf.Strconv.AtoiLong
import Derived.Shelf.Strconv.AtoiInnerAll
import Derived.Shelf.Strconv.RangeError
import Derived.Shelf.Strconv.ToErrorRange
import Derived.Shelf.Strconv.AtoiAll
import Derived.Shelf.Strconv.ErrVarAll
import Derived.Shelf.Strings.Search1
import Derived.Shelf.Strings.Search2
import Derived.Shelf.Strings.Cut
import Derived.Shelf.Strings.Shaped
import Derived.Shelf.Strings.Runes
import Derived.Shelf.Strings.AsciiSet
import Derived.Shelf.Unicode.DecodeSlow
import Derived.Shelf.Unicode.DecodeAny
import Derived.Ground.Names2Prog
import Derived.Shelf.Slices.Clone
section
namespace Go.Proofs.YtcoaajkhfgakgaaDoor.Pr
open Go.RowKit Go.Proofs.YtcoaajkhfgakgaaDoorW.PrintWords Go.Proofs.YtcoaajkhfgakgaaDoorW.PrintLast Go.Proofs.YtcoaajkhfgakgaaDoorW.PrintMore
set_option linter.unusedVariables false
set_option linter.unusedSimpArgs false
def RowB (W : World) (B : Nat) (xs : List Int) : Prop :=
  ∀ i, i < xs.length → W.cell? ⟨B, i, none⟩ = some (.int .u8 (xs.getD i 0)) ∧ W.frozen? ⟨B, i, none⟩ = false
theorem RowB.set {W : World} {B : Nat} {xs : List Int} (h : RowB W B xs) (i : Nat) (v : Int) : RowB (W.setCell ⟨B, i, none⟩ (.int .u8 v)) B (xs.set i v) := by
  intro j hj
  rw [List.length_set] at hj
  obtain ⟨h1, h2⟩ := h j hj
  refine ⟨?_, by rw [World.frozen?_setCell]; exact h2⟩
  by_cases e : i = j
  · subst e
    rw [World.cell?_setCell_same _ _ _ h1]
    simp [List.getD_eq_getElem?_getD, hj]
  · rw [World.cell?_setCell_other _ _ _ _ (by intro h; injection h with _ h _; exact e h), h1]
    simp [List.getD_eq_getElem?_getD, List.getElem?_set, e]
theorem RowB.bytes (w : World) (s : ByteArray) : RowB (Lib.bytesWorld w 5 s) w.heap.size (bytesOf s) := by
  intro i hi
  rw [bytesOf_length] at hi
  refine ⟨?_, ?_⟩
  · rw [Lib.bytesWorld_cell w _ s i hi]
    have h' : i < s.data.toList.length := by rw [data_length]; exact hi
    simp [bytesOf, List.getD_eq_getElem?_getD, List.getElem?_eq_getElem h']
  · have hsz : i < (Lib.bytesCells w 5 s).size := by
      simp only [Lib.bytesCells, Array.size_append, Array.size_map]
      have : s.data.size = s.size := rfl
      omega
    simp only [World.frozen?, Lib.bytesWorld_at_new]
    simp; omega
theorem RowB.reads {W : World} {B : Nat} {xs : List Int} (h : RowB W B xs) (hm : xs.length ≤ 9223372036854775807) : ReadsInt W .u8 (some ⟨B, 0, none⟩) xs.length xs := by
  refine ⟨rfl, hm, fun _ => ⟨_, rfl, fun j hj => ?_⟩⟩
  rw [add_plain]
  exact (h j hj).1
theorem addr_add_zero (a : Addr) : a.add 0 = a := by
  unfold Addr.add
  split <;> first | rfl | simp_all
theorem add_none (b o j : Nat) : (⟨b, o, none⟩ : Addr).add j = ⟨b, o + j, none⟩ := by
  unfold Addr.add
  split <;> simp_all
theorem spot_of_cell {w : World} {a : Addr} {v : Value} (h : w.cell? a = some v) : a.spot = none := by
  unfold World.cell? at h
  split at h
  · rcases hs : a.spot with _ | x
    · rfl
    · simp [hs] at h
  · simp at h
theorem frz_new {w : World} {a : Addr} {o : Obj} (h : a.block < w.heap.size) (z : w.frozen? a = false) : (w.alloc o).drew.frozen? a = false := by
  have e : (w.alloc o).heap[a.block]? = w.heap[a.block]? := Below.heap_alloc w o _ h
  show (w.alloc o).frozen? a = false
  rw [World.frozen?_of_block (w := w) e]
  exact z
theorem cell_new_ {w : World} {a : Addr} {o : Obj} {v : Value} (h : a.block < w.heap.size) (z : w.cell? a = some v) : (w.alloc o).drew.cell? a = some v := by
  have e : (w.alloc o).heap[a.block]? = w.heap[a.block]? := Below.heap_alloc w o _ h
  show (w.alloc o).cell? a = some v
  rw [World.cell?_of_block (w := w) e]
  exact z
theorem set_map_take {α : Type} (f : α → α) (xs : List α) (i : Nat) (hi : i < xs.length) :
    ((xs.take i).map f ++ xs.drop i).set i (f xs[i]) = (xs.take (i + 1)).map f ++ xs.drop (i + 1) := by
  have hl : ((xs.take i).map f).length = i := by simp; omega
  rw [List.set_append_right _ _ (by omega), hl, Nat.sub_self, List.drop_eq_getElem_cons hi, List.set_cons_zero, List.take_succ_eq_append_getElem hi]
  simp only [List.map_append, List.map_cons, List.map_nil, List.append_assoc, List.singleton_append]
theorem getD_map_take {f : Int → Int} (xs : List Int) (i : Nat) (hi : i < xs.length) : ((xs.take i).map f ++ xs.drop i).getD i 0 = xs[i] := by
  have hl : ((xs.take i).map f).length = i := by simp; omega
  rw [List.getD_eq_getElem?_getD, List.getElem?_append_right (by omega), hl, Nat.sub_self, List.drop_eq_getElem_cons hi]
  rfl
end Go.Proofs.YtcoaajkhfgakgaaDoor.Pr
end

section
namespace Go.Proofs.YtcoaajkhfgakgaaDoor.Pr
open Go.RowKit Go.Proofs.YtcoaajkhfgakgaaDoorW.PrintWords Go.Proofs.YtcoaajkhfgakgaaDoorW.PrintLast Go.Proofs.YtcoaajkhfgakgaaDoorW.PrintMore
set_option linter.unusedVariables false
set_option linter.unusedSimpArgs false
structure Wd where
  s : ByteArray
  line : Int
def cellsW (ws : List Wd) : List Value := ws.flatMap fun x => [.string x.s, .int .i64 x.line]
theorem cellsW_snoc (ws : List Wd) (x : Wd) : cellsW (ws ++ [x]) = cellsW ws ++ [.string x.s, .int .i64 x.line] := by simp [cellsW]
theorem infoW : (Tryd.prog.info? 79).map (fun i => (i.zero, i.size, i.bytes)) = some (some (.agg #[(.string ⟨#[]⟩), (.int .i64 0)]), 2, 24) := by kernel_rfl
structure WSt (w0 W : World) (b0 b1 b2 b3 : Nat) (s : ByteArray) (line frm : Int) (ws : List Wd) (v : Value) : Prop where
  text : W.heap[b0]? = some (.cells #[.string s] 9 (0, 0))
  out : W.heap[b1]? = some (.cells #[v] 61 (0, 0))
  line : W.heap[b2]? = some (.cells #[.int .i64 line] 3 (0, 0))
  frm : W.heap[b3]? = some (.cells #[.int .i64 frm] 3 (0, 0))
  row : W.ownsRow w0.heap.size 79 2 v ws.length (cellsW ws)
  bel : Below w0.heap.size w0 W
  ne : b0 ≠ b1 ∧ b0 ≠ b2 ∧ b0 ≠ b3 ∧ b1 ≠ b2 ∧ b1 ≠ b3 ∧ b2 ≠ b3
  le : w0.heap.size ≤ b0 ∧ w0.heap.size ≤ b1 ∧ w0.heap.size ≤ b2 ∧ w0.heap.size ≤ b3
section
variable {w0 W W1 : World} {b0 b1 b2 b3 : Nat} {s : ByteArray} {line frm : Int} {ws : List Wd} {v v1 : Value} {o : Obj}
theorem WSt.far_of (h : WSt w0 W b0 b1 b2 b3 s line frm ws v) {k : Nat} {cs : Array Value} {t : TypeId} (hb : W.heap[k]? = some (.cells cs t (0, 0))) (ht : t ≠ 79) : v.ownBlock ≠ some k := by
  intro e
  obtain ⟨cells, hc⟩ := own_typed h.row _ e
  rw [hb] at hc; injection hc with hc; injection hc with _ hc; exact ht hc
theorem WSt.setFrom (h : WSt w0 W b0 b1 b2 b3 s line frm ws v) (f : Int) : WSt w0 (W.setCell ⟨b3, 0, none⟩ (.int .i64 f)) b0 b1 b2 b3 s line f ws v := by
  obtain ⟨n1, n2, n3, n4, n5, n6⟩ := h.ne
  obtain ⟨l0, l1, l2, l3⟩ := h.le
  exact ⟨blk_far h.text n3 _, blk_far h.out n5 _, blk_far h.line n6 _, blk_put h.frm 0 _ rfl, own_setCell h.row (Ne.symm (h.far_of h.frm (by decide))) _, h.bel.setCell l3 _, h.ne, h.le⟩
theorem WSt.setLine (h : WSt w0 W b0 b1 b2 b3 s line frm ws v) (f : Int) : WSt w0 (W.setCell ⟨b2, 0, none⟩ (.int .i64 f)) b0 b1 b2 b3 s f frm ws v := by
  obtain ⟨n1, n2, n3, n4, n5, n6⟩ := h.ne
  obtain ⟨l0, l1, l2, l3⟩ := h.le
  exact ⟨blk_far h.text n2 _, blk_far h.out n4 _, blk_put h.line 0 _ rfl, blk_far h.frm (Ne.symm n6) _, own_setCell h.row (Ne.symm (h.far_of h.line (by decide))) _, h.bel.setCell l2 _, h.ne, h.le⟩
theorem WSt.drew (h : WSt w0 W b0 b1 b2 b3 s line frm ws v) : WSt w0 W.drew b0 b1 b2 b3 s line frm ws v := ⟨h.text, h.out, h.line, h.frm, h.row, h.bel.drew, h.ne, h.le⟩
theorem WSt.grow (h : WSt w0 W b0 b1 b2 b3 s line frm ws v) (x : Wd)
    (hown : W1.ownsRow w0.heap.size 79 2 v1 (ws.length + 1) (cellsW ws ++ [.string x.s, .int .i64 x.line])) (hg : (W.alloc o).drew.grownBy W1 v.ownBlock) (hty : v1.ownBlock ≠ some b1) :
    WSt w0 (W1.setCell ⟨b1, 0, none⟩ v1) b0 b1 b2 b3 s line frm (ws ++ [x]) v1 := by
  have hb : ∀ k o', W.heap[k]? = some o' → v.ownBlock ≠ some k → W1.heap[k]? = some o' := fun k o' ho hk => by
    have h1 : (W.alloc o).drew.heap[k]? = some o' := (Below.heap_alloc W o _ (blk_lt ho)).trans ho
    exact blk_grown h1 hg (fun e => hk e.symm)
  obtain ⟨n1, n2, n3, n4, n5, n6⟩ := h.ne
  obtain ⟨l0, l1, l2, l3⟩ := h.le
  refine ⟨blk_far (hb _ _ h.text (h.far_of h.text (by decide))) n1 _, blk_put (hb _ _ h.out (h.far_of h.out (by decide))) 0 _ rfl, blk_far (hb _ _ h.line (h.far_of h.line (by decide))) (Ne.symm n4) _,
    blk_far (hb _ _ h.frm (h.far_of h.frm (by decide))) (Ne.symm n5) _, ?_, ?_, h.ne, h.le⟩
  · rw [cellsW_snoc, List.length_append, List.length_singleton]
    exact own_setCell hown (Ne.symm hty) _
  · refine Below.setCell ?_ l1 _
    have hb1 : Below w0.heap.size w0 (W.alloc o).drew := (h.bel.alloc h.bel.size o).drew
    exact hb1.grown hg (by have := h.bel.size; simp [World.drew]; omega) (fun k hk => own_base h.row k hk)
end
set_option maxRecDepth 100000 in
set_option maxHeartbeats 3200000 in
theorem words_end (w0 w : World) (b0 b1 b2 b3 : Nat) (s : ByteArray) (line : Int) (f i : Nat) (ws : List Wd) (v : Value) (h : WSt w0 w b0 b1 b2 b3 s line f ws v) (hfi : f ≤ i) (his : i ≤ s.size) (hs : s.size ≤ 1099511627776) (hw : ws.length ≤ 1099511627776) :
    Calls Tryd.prog 29 #[.int .i64 i, .pointer (some ⟨b3, 0, none⟩), .pointer (some ⟨b1, 0, none⟩), .pointer (some ⟨b0, 0, none⟩), .pointer (some ⟨b2, 0, none⟩)] w
      fun e w' => e = .returned (.tuple #[]) ∧ ∃ v', WSt w0 w' b0 b1 b2 b3 s line (-1) (ws ++ [⟨s.extract f i, line⟩]) v' := by
  obtain ⟨i0, hi0, hz0, hz1, hz2⟩ := info_parts infoW
  have H := Aside0.mk h
  have c0 : w.cell? ⟨b0, 0, none⟩ = some (.string s) := (blk_cell h.text 0).trans rfl
  have c1 : w.cell? ⟨b1, 0, none⟩ = some v := (blk_cell h.out 0).trans rfl
  have c2 : w.cell? ⟨b2, 0, none⟩ = some (.int .i64 line) := (blk_cell h.line 0).trans rfl
  have c3 : w.cell? ⟨b3, 0, none⟩ = some (.int .i64 f) := (blk_cell h.frm 0).trans rfl
  have lt0 : b0 < w.heap.size := blk_lt h.text
  have lt1 : b1 < w.heap.size := blk_lt h.out
  have lt2 : b2 < w.heap.size := blk_lt h.line
  have lt3 : b3 < w.heap.size := blk_lt h.frm
  have lw : w0.heap.size ≤ w.heap.size := h.bel.size
  have a0 : ∀ o, (w.alloc o).cell? ⟨b0, 0, none⟩ = some (.string s) := fun o => cell_new_ lt0 c0
  have a1 : ∀ o, (w.alloc o).cell? ⟨b1, 0, none⟩ = some v := fun o => cell_new_ lt1 c1
  have a2 : ∀ o, (w.alloc o).cell? ⟨b2, 0, none⟩ = some (.int .i64 line) := fun o => cell_new_ lt2 c2
  have a3 : ∀ o, (w.alloc o).cell? ⟨b3, 0, none⟩ = some (.int .i64 f) := fun o => cell_new_ lt3 c3
  have z1 : w.frozen? ⟨b1, 0, none⟩ = false := blk_frozen h.out 0
  have z3 : w.frozen? ⟨b3, 0, none⟩ = false := blk_frozen h.frm 0
  have hown := Aside0.mk h.row
  have far0 := h.far_of h.text (by decide)
  have far1 := h.far_of h.out (by decide)
  have far2 := h.far_of h.line (by decide)
  have far3 := h.far_of h.frm (by decide)
  have g0 : (0 : Int) ≤ (f : Int) := Int.natCast_nonneg _
  have g1 : (f : Int) ≤ (i : Int) := by omega
  have g2 : (i : Int) ≤ (s.size : Int) := by omega
  clear h
  go_enter Tryd.func29, Tryd.ntmps29
  go_wp2_with fail
  go_region_law ((refine step_append_lies _ (by rfl) _ _ _ (by rfl) w0.heap.size 79 i0 _ 2 24 Tryd.underlying61 hi0 hz0 hz1 hz2 rfl (by omega) v ws.length (cellsW ws) (by rfl) ((hown.out.alloc _).drew) ⟨w.heap.size, 0, none⟩ 1 1 [.string (s.extract f i), .int .i64 line] (by rfl) (by rfl) (World.news_of_block (cs := #[.string (s.extract f i), .int .i64 line]) (t := 79) (fr := (0, 0)) (heap_alloc_new w _)) (by simp [Value.oneCell']) (by omega) (by unfold maxLen; omega) (by omega) (by simp; omega) (w.heap.size + 1) (by simp) ?_; intro gg cap w1 hown1 hgrow hat hlt; have c1b : w1.cell? ⟨b1, 0, none⟩ = some v := (hgrow.cell_far _ (by simp; omega) (Ne.symm far1)).trans (cell_new_ lt1 c1); have z1b : w1.frozen? ⟨b1, 0, none⟩ = false := (hgrow.frozen_far _ (by simp; omega) (Ne.symm far1)).trans (frz_new lt1 z1)))
  all_goals
    have hty : (Value.slice (some ⟨gg, 0, none⟩) (ws.length + 1) cap).ownBlock ≠ some b1 := by
      rcases hat with hat | hat
      · exact fun e => far1 (hat.trans (show some gg = _ from e))
      · simp only [Value.ownBlock]; intro e; injection e with e; omega
    have hst := H.out.grow ⟨s.extract f i, line⟩ hown1 hgrow hty
    generalize w1.setCell ⟨b1, 0, none⟩ (Value.slice (some ⟨gg, 0, none⟩) (ws.length + 1) cap) = w2 at hst ⊢
    have d3 : w2.cell? ⟨b3, 0, none⟩ = some (.int .i64 f) := (blk_cell hst.frm 0).trans rfl
    have e3 : w2.frozen? ⟨b3, 0, none⟩ = false := blk_frozen hst.frm 0
    have hst2 := Aside0.mk (hst.setFrom (-1))
    clear hst hown1 hgrow hat hlt c1b z1b hty
    go_wp2
    go_end0
    exact ⟨rfl, _, hst2.out⟩
def endW (s : ByteArray) (i : Nat) (line frm : Int) (ws : List Wd) : List Wd := if 0 ≤ frm then ws ++ [⟨s.extract frm.toNat i, line⟩] else ws
set_option maxHeartbeats 800000 in
theorem words_end_none (w0 w : World) (b0 b1 b2 b3 : Nat) (s : ByteArray) (line frm i : Int) (ws : List Wd) (v : Value) (h : WSt w0 w b0 b1 b2 b3 s line frm ws v) (hf : frm < 0) :
    Calls Tryd.prog 29 #[.int .i64 i, .pointer (some ⟨b3, 0, none⟩), .pointer (some ⟨b1, 0, none⟩), .pointer (some ⟨b0, 0, none⟩), .pointer (some ⟨b2, 0, none⟩)] w
      fun e w' => e = .returned (.tuple #[]) ∧ WSt w0 w' b0 b1 b2 b3 s line (-1) ws v := by
  have H := Aside0.mk (h.setFrom (-1))
  have c3 : w.cell? ⟨b3, 0, none⟩ = some (.int .i64 frm) := (blk_cell h.frm 0).trans rfl
  have z3 : w.frozen? ⟨b3, 0, none⟩ = false := blk_frozen h.frm 0
  clear h
  go_enter Tryd.func29, Tryd.ntmps29
  go_wp2
  go_end0
  exact ⟨rfl, H.out⟩
theorem words_end_any (w0 w : World) (b0 b1 b2 b3 : Nat) (s : ByteArray) (line frm : Int) (i : Nat) (ws : List Wd) (v : Value) (h : WSt w0 w b0 b1 b2 b3 s line frm ws v) (hfi : frm ≤ i) (his : i ≤ s.size) (hs : s.size ≤ 1099511627776) (hw : ws.length ≤ 1099511627776) :
    Calls Tryd.prog 29 #[.int .i64 i, .pointer (some ⟨b3, 0, none⟩), .pointer (some ⟨b1, 0, none⟩), .pointer (some ⟨b0, 0, none⟩), .pointer (some ⟨b2, 0, none⟩)] w
      fun e w' => e = .returned (.tuple #[]) ∧ ∃ v', WSt w0 w' b0 b1 b2 b3 s line (-1) (endW s i line frm ws) v' := by
  by_cases hf : 0 ≤ frm
  · obtain ⟨f, rfl⟩ := Int.eq_ofNat_of_zero_le hf
    refine (words_end w0 w b0 b1 b2 b3 s line f i ws v h (by omega) his hs hw).mono ?_
    rintro e w' ⟨rfl, v', h'⟩
    refine ⟨rfl, v', ?_⟩
    unfold endW
    rw [if_pos hf, Int.toNat_natCast]
    exact h'
  · refine (words_end_none w0 w b0 b1 b2 b3 s line frm i ws v h (by omega)).mono ?_
    rintro e w' ⟨rfl, h'⟩
    refine ⟨rfl, v, ?_⟩
    unfold endW
    rw [if_neg hf]
    exact h'
end Go.Proofs.YtcoaajkhfgakgaaDoor.Pr
end

section
namespace Go.Proofs.YtcoaajkhfgakgaaDoor.Pr
open Go.RowKit Go.Proofs.YtcoaajkhfgakgaaDoorW.PrintWords Go.Proofs.YtcoaajkhfgakgaaDoorW.PrintLast Go.Proofs.YtcoaajkhfgakgaaDoorW.PrintMore
set_option linter.unusedVariables false
set_option linter.unusedSimpArgs false
def RdW (w : World) (A : Option Addr) (l : List Wd) : Prop := ReadsRow (fun (x : Wd) cs => cs = [.string x.s, .int .i64 x.line]) 2 w A l.length l
structure St where
  l : List Wd
  code : Int
  line : Int
def IsRd (w0 W : World) (g : Nat) (st : St) : Prop :=
  ∃ A c, W.heap[g]? = some (.cells #[.slice A st.l.length c, .int .i64 st.code, .int .i64 st.line] 64 (0, 0)) ∧ st.l.length ≤ c ∧ w0.heap.size ≤ g ∧ RdW w0 A st.l ∧ 0 < st.l.length
def hdW (l : List Wd) : Wd := l.headD ⟨⟨#[]⟩, 0⟩
def nextS (st : St) : ByteArray := if st.code = 0 then (hdW st.l).s else ⟨#[]⟩
def failS (st : St) (e : Int) : St := if st.code = 0 then { st with code := e, line := (hdW st.l).line } else st
def takeS (st : St) : St := if st.code = 0 ∧ 1 < st.l.length then { st with l := st.l.tail } else st
def mustS (st : St) (s : ByteArray) : St := takeS (if nextS st = s then st else failS st 30)
theorem RdW.head {w0 : World} {A : Option Addr} {l : List Wd} (h : RdW w0 A l) (h0 : 0 < l.length) :
    ∃ b o, A = some ⟨b, o, none⟩ ∧ w0.cell? ⟨b, o, none⟩ = some (.string (hdW l).s) ∧ w0.cell? ⟨b, o + 1, none⟩ = some (.int .i64 (hdW l).line) := by
  obtain ⟨ad, he, hc⟩ := h.2.2 h0
  obtain ⟨x, r, rfl⟩ : ∃ x r, l = x :: r := by cases l with | nil => simp at h0 | cons x r => exact ⟨x, r, rfl⟩
  obtain ⟨c, _, rfl, hcell⟩ := hc 0 x rfl
  have h1 := hcell 0 _ rfl
  have h2 := hcell 1 _ rfl
  rw [addr_add_zero] at h1
  have hs := spot_of_cell h1
  obtain ⟨b, o, sp⟩ := ad
  simp only at hs
  subst hs
  rw [add_none] at h2
  exact ⟨b, o, he, h1, h2⟩
theorem cell_by {w0 W : World} (hB : Below w0.heap.size w0 W) {a : Addr} {v : Value} (h : w0.cell? a = some v) : W.cell? a = some v := pw_cell_below hB h
theorem reader_next_calls (w0 w : World) (g : Nat) (st : St) (h : IsRd w0 w g st) (hB : Below w0.heap.size w0 w) :
    Calls Tryd.prog 30 #[.pointer (some ⟨g, 0, none⟩)] w fun e w' => e = .returned (.string (nextS st)) ∧ w' = w := by
  obtain ⟨A, c, hb, hlc, hg, hrd, h0⟩ := h
  have c1 : w.cell? ⟨g, 1, none⟩ = some (.int .i64 st.code) := (blk_cell hb 1).trans rfl
  have hu := Tryd.underlying64
  by_cases hz : st.code = 0
  · have e : nextS st = (hdW st.l).s := by unfold nextS; rw [if_pos hz]
    obtain ⟨b, o, rfl, d0, d1⟩ := hrd.head h0
    have c0 : w.cell? ⟨g, 0, none⟩ = some (.slice (some ⟨b, o, none⟩) st.l.length c) := (blk_cell hb 0).trans rfl
    have d0 := cell_by hB d0
    rw [hz] at c1
    have E := Aside0.mk e
    clear e hb hrd hz d1
    generalize (hdW st.l).s = x at *
    generalize nextS st = y at *
    generalize st.l.length = n at *
    go_enter Tryd.func30, Tryd.ntmps30
    go_wp2
    go_ret
    exact ⟨congrArg (fun z => Ending.returned (.string z)) E.out.symm, rfl⟩
  · have e : nextS st = ⟨#[]⟩ := by unfold nextS; rw [if_neg hz]
    have E := Aside0.mk e
    have hq : (st.code != 0) = true := by simpa using hz
    clear e hb hrd hz
    generalize nextS st = y at *
    generalize st.code = cd at *
    go_enter Tryd.func30, Tryd.ntmps30
    go_wp2
    go_ret
    exact ⟨congrArg (fun z => Ending.returned (.string z)) E.out.symm, rfl⟩
theorem reader_fail_calls (w0 w : World) (g : Nat) (st : St) (x : Int) (h : IsRd w0 w g st) (hB : Below w0.heap.size w0 w) :
    Calls Tryd.prog 31 #[.pointer (some ⟨g, 0, none⟩), .int .i64 x] w fun e w' => e = .returned (.tuple #[]) ∧ IsRd w0 w' g (failS st x) ∧ Below w0.heap.size w0 w' ∧ KeepBut w w' g none := by
  have hI := Aside0.mk h
  obtain ⟨A, c, hb, hlc, hg, hrd, h0⟩ := h
  have c1 : w.cell? ⟨g, 1, none⟩ = some (.int .i64 st.code) := (blk_cell hb 1).trans rfl
  have c2 : w.cell? ⟨g, 2, none⟩ = some (.int .i64 st.line) := (blk_cell hb 2).trans rfl
  have z1 : w.frozen? ⟨g, 1, none⟩ = false := blk_frozen hb 1
  have z2 : w.frozen? ⟨g, 2, none⟩ = false := blk_frozen hb 2
  have hu := Tryd.underlying64
  have hu2 := Tryd.underlying48
  have hu3 := Tryd.underlying78
  by_cases hz : st.code = 0
  · have e : failS st x = { st with code := x, line := (hdW st.l).line } := by unfold failS; rw [if_pos hz]
    obtain ⟨b, o, rfl, d0, d1⟩ := hrd.head h0
    have c0 : w.cell? ⟨g, 0, none⟩ = some (.slice (some ⟨b, o, none⟩) st.l.length c) := (blk_cell hb 0).trans rfl
    have d1 := cell_by hB d1
    have F : Aside0 (IsRd w0 ((w.setCell ⟨g, 1, none⟩ (.int .i64 x)).setCell ⟨g, 2, none⟩ (.int .i64 (hdW st.l).line)) g (failS st x) ∧ Below w0.heap.size w0 ((w.setCell ⟨g, 1, none⟩ (.int .i64 x)).setCell ⟨g, 2, none⟩ (.int .i64 (hdW st.l).line)) ∧ KeepBut w ((w.setCell ⟨g, 1, none⟩ (.int .i64 x)).setCell ⟨g, 2, none⟩ (.int .i64 (hdW st.l).line)) g none) := by
      refine ⟨?_, ?_, ?_⟩
      · rw [e]
        exact ⟨_, c, blk_put (blk_put hb 1 _ rfl) 2 _ rfl, hlc, hg, hrd, h0⟩
      · exact below_set (below_set hB hg) hg
      · exact KeepBut.set_ (KeepBut.set_ (KeepBut.refl _ _ _) _ _) _ _
    rw [hz] at c1
    clear e hb hrd hz hI d0
    generalize failS st x = y at *
    generalize (hdW st.l).line = ln at *
    generalize st.l.length = n at *
    go_enter Tryd.func31, Tryd.ntmps31
    go_wp2
    go_end0
    exact ⟨rfl, F.out⟩
  · have e : failS st x = st := by unfold failS; rw [if_neg hz]
    have hq : (st.code == 0) = false := beq_eq_false_iff_ne.2 hz
    have F : Aside0 (IsRd w0 w g (failS st x) ∧ Below w0.heap.size w0 w ∧ KeepBut w w g none) := ⟨by rw [e]; exact ⟨hI.out, hB, KeepBut.refl _ _ _⟩⟩
    clear e hb hrd hz hI
    generalize failS st x = y at *
    generalize st.code = cd at *
    go_enter Tryd.func31, Tryd.ntmps31
    go_wp2
    go_end0
    exact ⟨rfl, F.out⟩
theorem cut_tail (b o n c : Nat) (h1 : 1 < n) (h2 : n ≤ c) : ∀ W : World, (Instr.slice 61 (.slice (some ⟨b, o, none⟩) n c) (some (.int .i64 1)) none none).run Tryd.prog W = .ok (.slice (some ⟨b, o + 2, none⟩) (n - 1) (c - 1)) W := by
  intro W
  obtain ⟨i0, hi0, hz0, hz1, hz2⟩ := info_parts infoW
  have hel : Tryd.prog.elem 61 = 79 := by simp [Program.elem, Tryd.underlying61]
  have hu : Tryd.prog.underlying 61 = some (.slice (Tryd.prog.elem 61)) := by rw [hel]; exact Tryd.underlying61
  rw [run_slice_l W 61 (some ⟨b, o, none⟩) n c hu .i64 1 (by omega) (by omega), hel]
  have hc : c ≠ 1 := by omega
  simp [sizeOf, typeInfo, hi0, hz1, sliced, Result.andThen, hc, Addr.add]
theorem RdW.tail {w0 : World} {b o : Nat} {l : List Wd} (h : RdW w0 (some ⟨b, o, none⟩) l) : RdW w0 (some ⟨b, o + 2, none⟩) l.tail := by
  refine ⟨rfl, ?_, fun hp => ?_⟩
  · have := h.2.1; simp; omega
  · obtain ⟨ad, he, hc⟩ := h.2.2 (by simp at hp; omega)
    injection he with he
    subst he
    refine ⟨_, rfl, fun j p hj => ?_⟩
    have hj' : l[j + 1]? = some p := by rw [← hj]; simp
    obtain ⟨cs, h1, h2, h3⟩ := hc (j + 1) p hj'
    refine ⟨cs, h1, h2, fun i u hu => ?_⟩
    have := h3 i u hu
    rw [add_none] at this ⊢
    rw [show o + 2 + (j * 2 + i) = o + ((j + 1) * 2 + i) from by omega]
    exact this
theorem toList_ne {a b : ByteArray} (h : a ≠ b) : (a.toList == b.toList) = false := by
  rw [beq_eq_false_iff_ne]
  intro e
  apply h
  rw [Lib.toList_data, Lib.toList_data] at e
  obtain ⟨⟨x⟩⟩ := a
  obtain ⟨⟨y⟩⟩ := b
  simp only at e
  rw [e]
set_option maxRecDepth 100000 in
theorem reader_take_calls (w0 w : World) (g : Nat) (st : St) (h : IsRd w0 w g st) (hB : Below w0.heap.size w0 w) :
    Calls Tryd.prog 34 #[.pointer (some ⟨g, 0, none⟩)] w fun e w' => e = .returned (.tuple #[]) ∧ IsRd w0 w' g (takeS st) ∧ Below w0.heap.size w0 w' ∧ KeepBut w w' g none := by
  have hI := Aside0.mk h
  obtain ⟨A, c, hb, hlc, hg, hrd, h0⟩ := h
  have c1 : w.cell? ⟨g, 1, none⟩ = some (.int .i64 st.code) := (blk_cell hb 1).trans rfl
  have z0 : w.frozen? ⟨g, 0, none⟩ = false := blk_frozen hb 0
  have hu := Tryd.underlying64
  have hu2 := Tryd.underlying48
  have G : takeS st = st → Aside0 (IsRd w0 w g (takeS st) ∧ Below w0.heap.size w0 w ∧ KeepBut w w g none) := fun e => ⟨by rw [e]; exact ⟨hI.out, hB, KeepBut.refl _ _ _⟩⟩
  by_cases hz : st.code = 0
  · obtain ⟨b, o, rfl, d0, d1⟩ := hrd.head h0
    have c0 : w.cell? ⟨g, 0, none⟩ = some (.slice (some ⟨b, o, none⟩) st.l.length c) := (blk_cell hb 0).trans rfl
    by_cases hn : 1 < st.l.length
    · have e : takeS st = { st with l := st.l.tail } := by unfold takeS; rw [if_pos ⟨hz, hn⟩]
      have hlt : st.l.tail.length = st.l.length - 1 := by simp
      have F : Aside0 (IsRd w0 (w.setCell ⟨g, 0, none⟩ (.slice (some ⟨b, o + 2, none⟩) (st.l.length - 1) (c - 1))) g (takeS st) ∧ Below w0.heap.size w0 (w.setCell ⟨g, 0, none⟩ (.slice (some ⟨b, o + 2, none⟩) (st.l.length - 1) (c - 1))) ∧ KeepBut w (w.setCell ⟨g, 0, none⟩ (.slice (some ⟨b, o + 2, none⟩) (st.l.length - 1) (c - 1))) g none) := by
        refine ⟨?_, below_set hB hg, KeepBut.set_ (KeepBut.refl _ _ _) _ _⟩
        rw [e]
        exact ⟨some ⟨b, o + 2, none⟩, c - 1, blk_put hb 0 _ (by rw [hlt]; rfl), by rw [hlt]; omega, hg, hrd.tail, by rw [hlt]; omega⟩
      have hsl := cut_tail b o st.l.length c hn hlc
      rw [hz] at c1
      clear e hb hrd hz hI d0 d1 hlt G
      generalize takeS st = y at *
      generalize st.l.length = n at *
      go_enter Tryd.func34, Tryd.ntmps34
      go_wp2
      go_end0
      exact ⟨rfl, F.out⟩
    · have F := G (by unfold takeS; rw [if_neg (by rintro ⟨_, h⟩; exact hn h)])
      rw [hz] at c1
      clear hb hrd hz hI d0 d1 G
      generalize takeS st = y at *
      generalize st.l.length = n at *
      go_enter Tryd.func34, Tryd.ntmps34
      go_wp2
      go_end0
      exact ⟨rfl, F.out⟩
  · have F := G (by unfold takeS; rw [if_neg (by rintro ⟨h, _⟩; exact hz h)])
    have hq : (st.code == 0) = false := beq_eq_false_iff_ne.2 hz
    clear hb hrd hz hI G
    generalize takeS st = y at *
    generalize st.code = cd at *
    go_enter Tryd.func34, Tryd.ntmps34
    go_wp2
    go_end0
    exact ⟨rfl, F.out⟩
theorem keep_then {w w1 w2 : World} {g : Nat} (h : KeepBut w w1 g none) (k : KeepBut w1 w2 g none) : KeepBut w w2 g none := KeepBut.trans h k (.inl rfl)
set_option maxRecDepth 100000 in
theorem reader_must_calls (w0 w : World) (g : Nat) (st : St) (s : ByteArray) (h : IsRd w0 w g st) (hB : Below w0.heap.size w0 w) :
    Calls Tryd.prog 32 #[.pointer (some ⟨g, 0, none⟩), .string s] w fun e w' => e = .returned (.tuple #[]) ∧ IsRd w0 w' g (mustS st s) ∧ Below w0.heap.size w0 w' ∧ KeepBut w w' g none := by
  have hn := Aside0.mk (reader_next_calls w0 w g st h hB)
  have hI := Aside0.mk h
  have hB := Aside0.mk hB
  by_cases hx : nextS st = s
  · have e : Aside0 (mustS st s = takeS st) := ⟨by unfold mustS; rw [if_pos hx]⟩
    rw [hx] at hn
    clear hx h
    go_enter Tryd.func32, Tryd.ntmps32
    go_wp2_with fail
    refine hn.out.mono ?_
    rintro e w' ⟨rfl, rfl⟩
    go_wp2_with fail
    refine (reader_take_calls w0 _ g st hI.out hB.out).mono ?_
    rintro e w1 ⟨rfl, h1, h2, h3⟩
    have H1 := Aside0.mk (And.intro h1 (And.intro h2 h3))
    clear h1 h2 h3
    go_wp2
    go_end0
    exact ⟨rfl, by rw [e.out]; exact H1.out⟩
  · have e : Aside0 (mustS st s = takeS (failS st 30)) := ⟨by unfold mustS; rw [if_neg hx]⟩
    have hq := toList_ne hx
    clear hx h
    generalize nextS st = x at *
    go_enter Tryd.func32, Tryd.ntmps32
    go_wp2_with fail
    refine hn.out.mono ?_
    rintro e w' ⟨rfl, rfl⟩
    go_wp2_with fail
    refine (reader_fail_calls w0 _ g st 30 hI.out hB.out).mono ?_
    rintro e w1 ⟨rfl, h1, h2, h3⟩
    have H1 := Aside0.mk (And.intro h1 (And.intro h2 h3))
    clear h1 h2 h3
    go_wp2_with fail
    refine (reader_take_calls w0 _ g _ H1.out.1 H1.out.2.1).mono ?_
    rintro e w2 ⟨rfl, h1, h2, h3⟩
    have H2 := Aside0.mk (And.intro h1 (And.intro h2 h3))
    clear h1 h2 h3
    go_wp2
    go_end0
    exact ⟨rfl, by rw [e.out]; exact ⟨H2.out.1, H2.out.2.1, keep_then H1.out.2.2 H2.out.2.2⟩⟩
end Go.Proofs.YtcoaajkhfgakgaaDoor.Pr
end

section
namespace Go.Proofs.YtcoaajkhfgakgaaDoor.Pr
open Go.RowKit Go.Proofs.YtcoaajkhfgakgaaDoorW.PrintWords Go.Proofs.YtcoaajkhfgakgaaDoorW.PrintLast Go.Proofs.YtcoaajkhfgakgaaDoorW.PrintMore
attribute [local go_sem] max2_int min2_int max_two min_two max_three min_three max_four min_four   -- for this text's walks alone
set_option linter.unusedVariables false
set_option linter.unusedSimpArgs false
def errW : Option Int → Value
  | none => .nilIface
  | some c => .iface 0 (.int .i64 c)
theorem errW_none : errW none = .nilIface := rfl
theorem errW_some (c : Int) : errW (some c) = .iface 0 (.int .i64 c) := rfl
theorem info38 : (Tryd.prog.info? 38).map (fun i => (i.zero, i.size, i.bytes)) = some (some (.agg #[(.string ⟨#[]⟩), (.int .i64 0), (.int .i64 0), (.int .i64 0), (.bool false), (.bool false), (.slice none 0 0)]), 7, 72) := by kernel_rfl
structure S29 where
  f0 : ByteArray
  f1 : Int
  f2 : Int
  f3 : Int
  f4 : Bool
  f5 : Bool
  f6 : (List ByteArray)
def z29 : S29 := ⟨(⟨#[]⟩ : ByteArray), (0 : Int), (0 : Int), (0 : Int), false, false, ([] : List ByteArray)⟩
def k29 : Kd S29 := Kd.iso (Kd.pair Kd.string (Kd.pair (Kd.int .i64) (Kd.pair (Kd.int .i64) (Kd.pair (Kd.int .i64) (Kd.pair Kd.bool (Kd.pair Kd.bool (Kd.slice 9 Kd.string))))))) (fun x : S29 => (x.f0, x.f1, x.f2, x.f3, x.f4, x.f5, x.f6))
theorem k29_open {w : World} {x : S29} {cs : List Value} (h : k29.K w x cs) : ∃ A6 c6, cs = [.string x.f0, .int .i64 x.f1, .int .i64 x.f2, .int .i64 x.f3, .bool x.f4, .bool x.f5, .slice A6 x.f6.length c6] ∧ x.f6.length ≤ c6 ∧ Kd.string.C w A6 x.f6.length x.f6 := by
  obtain ⟨_, _, rfl, rfl, ⟨_, _, rfl, rfl, ⟨_, _, rfl, rfl, ⟨_, _, rfl, rfl, ⟨_, _, rfl, rfl, ⟨_, _, rfl, rfl, ⟨A6, c6, rfl, l6, g6⟩⟩⟩⟩⟩⟩⟩ := h
  exact ⟨A6, c6, rfl, l6, g6⟩
theorem k29_mkM (w : World) (base : Nat) (ok : Nat → Prop) (x : S29) {v6 : Value} (g6 : Kd.string.R 9 w base ok v6 x.f6) : k29.M w base ok x [.string x.f0, .int .i64 x.f1, .int .i64 x.f2, .int .i64 x.f3, .bool x.f4, .bool x.f5, v6] := ⟨[.string x.f0], [.int .i64 x.f1, .int .i64 x.f2, .int .i64 x.f3, .bool x.f4, .bool x.f5, v6], rfl, rfl, ⟨[.int .i64 x.f1], [.int .i64 x.f2, .int .i64 x.f3, .bool x.f4, .bool x.f5, v6], rfl, rfl, ⟨[.int .i64 x.f2], [.int .i64 x.f3, .bool x.f4, .bool x.f5, v6], rfl, rfl, ⟨[.int .i64 x.f3], [.bool x.f4, .bool x.f5, v6], rfl, rfl, ⟨[.bool x.f4], [.bool x.f5, v6], rfl, rfl, ⟨[.bool x.f5], [v6], rfl, rfl, ⟨v6, rfl, g6⟩⟩⟩⟩⟩⟩⟩
theorem k29_openF {W : World} {ok : Nat → Prop} {x : S29} {cs : List Value} (h : Kd.FK k29 W ok x cs) : ∃ A6 c6, cs = [.string x.f0, .int .i64 x.f1, .int .i64 x.f2, .int .i64 x.f3, .bool x.f4, .bool x.f5, .slice A6 x.f6.length c6] ∧ x.f6.length ≤ c6 ∧ Kd.F Kd.string W ok A6 x.f6.length x.f6 := by
  obtain ⟨A6, c6, rfl, l6, _⟩ := k29_open (Kd.FK_now h)
  exact ⟨A6, c6, rfl, l6, (fun W' hW => by obtain ⟨A6_, c6_, he, l6_, g6_⟩ := k29_open (h W' hW); injection (Option.some.inj (show some (Value.slice A6 x.f6.length c6) = some (Value.slice A6_ x.f6.length c6_) from congrArg (fun l => l[6]?) he)) with ha_ _ _; rw [ha_]; exact g6_)⟩
def rd_T29 (xs : List S29) (i : Int) : S29 := xs.getD i.toNat z29
theorem at_T29 {w : World} {A : Option Addr} {n : Nat} {xs : List S29} (h : Kd.C k29 w A n xs) (i : Int) (h0 : 0 ≤ i) (h1 : i < n) : ∃ ad A6 c6, A = some ad ∧ w.cell? (ad.add (i.toNat * 7)) = some (.string (rd_T29 xs i).f0) ∧ w.cell? ⟨(ad.add (i.toNat * 7)).block, (ad.add (i.toNat * 7)).off + 1, none⟩ = some (.int .i64 (rd_T29 xs i).f1) ∧ w.cell? ⟨(ad.add (i.toNat * 7)).block, (ad.add (i.toNat * 7)).off + 2, none⟩ = some (.int .i64 (rd_T29 xs i).f2) ∧ w.cell? ⟨(ad.add (i.toNat * 7)).block, (ad.add (i.toNat * 7)).off + 3, none⟩ = some (.int .i64 (rd_T29 xs i).f3) ∧ w.cell? ⟨(ad.add (i.toNat * 7)).block, (ad.add (i.toNat * 7)).off + 4, none⟩ = some (.bool (rd_T29 xs i).f4) ∧ w.cell? ⟨(ad.add (i.toNat * 7)).block, (ad.add (i.toNat * 7)).off + 5, none⟩ = some (.bool (rd_T29 xs i).f5) ∧ w.cell? ⟨(ad.add (i.toNat * 7)).block, (ad.add (i.toNat * 7)).off + 6, none⟩ = some (.slice A6 (rd_T29 xs i).f6.length c6) ∧ (rd_T29 xs i).f6.length ≤ c6 ∧ Kd.string.C w A6 (rd_T29 xs i).f6.length (rd_T29 xs i).f6 := by
  obtain ⟨ad, c, e, _, hK, hc0⟩ := Kd.C_get h z29 i h0 h1
  have hc : ∀ j u, c[j]? = some u → w.cell? (ad.add (i.toNat * 7 + j)) = some u := hc0
  obtain ⟨A6, c6, rfl, l6, g6⟩ := k29_open hK
  exact ⟨ad, A6, c6, e, hc 0 _ rfl, by rw [← add_field _ _ 1 (by omega)]; exact hc 1 _ rfl, by rw [← add_field _ _ 2 (by omega)]; exact hc 2 _ rfl, by rw [← add_field _ _ 3 (by omega)]; exact hc 3 _ rfl, by rw [← add_field _ _ 4 (by omega)]; exact hc 4 _ rfl, by rw [← add_field _ _ 5 (by omega)]; exact hc 5 _ rfl, by rw [← add_field _ _ 6 (by omega)]; exact hc 6 _ rfl, l6, g6⟩
structure S24 where
  f0 : (List S29)
def z24 : S24 := ⟨([] : List S29)⟩
structure S38 where
  f0 : ByteArray
  f1 : Int
  f2 : Int
  f3 : Int
  f4 : Bool
  f5 : Bool
  f6 : (List ByteArray)
def z38 : S38 := ⟨(⟨#[]⟩ : ByteArray), (0 : Int), (0 : Int), (0 : Int), false, false, ([] : List ByteArray)⟩
def k38 : Kd S38 := Kd.iso (Kd.pair Kd.string (Kd.pair (Kd.int .i64) (Kd.pair (Kd.int .i64) (Kd.pair (Kd.int .i64) (Kd.pair Kd.bool (Kd.pair Kd.bool (Kd.slice 9 Kd.string))))))) (fun x : S38 => (x.f0, x.f1, x.f2, x.f3, x.f4, x.f5, x.f6))
theorem k38_open {w : World} {x : S38} {cs : List Value} (h : k38.K w x cs) : ∃ A6 c6, cs = [.string x.f0, .int .i64 x.f1, .int .i64 x.f2, .int .i64 x.f3, .bool x.f4, .bool x.f5, .slice A6 x.f6.length c6] ∧ x.f6.length ≤ c6 ∧ Kd.string.C w A6 x.f6.length x.f6 := by
  obtain ⟨_, _, rfl, rfl, ⟨_, _, rfl, rfl, ⟨_, _, rfl, rfl, ⟨_, _, rfl, rfl, ⟨_, _, rfl, rfl, ⟨_, _, rfl, rfl, ⟨A6, c6, rfl, l6, g6⟩⟩⟩⟩⟩⟩⟩ := h
  exact ⟨A6, c6, rfl, l6, g6⟩
theorem k38_mk (w : World) (x : S38) {A6 : Option Addr} {c6 : Nat} (l6 : x.f6.length ≤ c6) (g6 : Kd.string.C w A6 x.f6.length x.f6) : k38.K w x [.string x.f0, .int .i64 x.f1, .int .i64 x.f2, .int .i64 x.f3, .bool x.f4, .bool x.f5, .slice A6 x.f6.length c6] := ⟨[.string x.f0], [.int .i64 x.f1, .int .i64 x.f2, .int .i64 x.f3, .bool x.f4, .bool x.f5, .slice A6 x.f6.length c6], rfl, rfl, ⟨[.int .i64 x.f1], [.int .i64 x.f2, .int .i64 x.f3, .bool x.f4, .bool x.f5, .slice A6 x.f6.length c6], rfl, rfl, ⟨[.int .i64 x.f2], [.int .i64 x.f3, .bool x.f4, .bool x.f5, .slice A6 x.f6.length c6], rfl, rfl, ⟨[.int .i64 x.f3], [.bool x.f4, .bool x.f5, .slice A6 x.f6.length c6], rfl, rfl, ⟨[.bool x.f4], [.bool x.f5, .slice A6 x.f6.length c6], rfl, rfl, ⟨[.bool x.f5], [.slice A6 x.f6.length c6], rfl, rfl, ⟨A6, c6, rfl, l6, g6⟩⟩⟩⟩⟩⟩⟩
theorem k38_mkF (W : World) (ok : Nat → Prop) (x : S38) {A6 : Option Addr} {c6 : Nat} (l6 : x.f6.length ≤ c6) (g6 : Kd.F Kd.string W ok A6 x.f6.length x.f6) : Kd.FK k38 W ok x [.string x.f0, .int .i64 x.f1, .int .i64 x.f2, .int .i64 x.f3, .bool x.f4, .bool x.f5, .slice A6 x.f6.length c6] := fun W2 hW => k38_mk W2 x l6 (g6 W2 hW)
def rd_T38 (xs : List S38) (i : Int) : S38 := xs.getD i.toNat z38
theorem at_T38 {w : World} {A : Option Addr} {n : Nat} {xs : List S38} (h : Kd.C k38 w A n xs) (i : Int) (h0 : 0 ≤ i) (h1 : i < n) : ∃ ad A6 c6, A = some ad ∧ w.cell? (ad.add (i.toNat * 7)) = some (.string (rd_T38 xs i).f0) ∧ w.cell? ⟨(ad.add (i.toNat * 7)).block, (ad.add (i.toNat * 7)).off + 1, none⟩ = some (.int .i64 (rd_T38 xs i).f1) ∧ w.cell? ⟨(ad.add (i.toNat * 7)).block, (ad.add (i.toNat * 7)).off + 2, none⟩ = some (.int .i64 (rd_T38 xs i).f2) ∧ w.cell? ⟨(ad.add (i.toNat * 7)).block, (ad.add (i.toNat * 7)).off + 3, none⟩ = some (.int .i64 (rd_T38 xs i).f3) ∧ w.cell? ⟨(ad.add (i.toNat * 7)).block, (ad.add (i.toNat * 7)).off + 4, none⟩ = some (.bool (rd_T38 xs i).f4) ∧ w.cell? ⟨(ad.add (i.toNat * 7)).block, (ad.add (i.toNat * 7)).off + 5, none⟩ = some (.bool (rd_T38 xs i).f5) ∧ w.cell? ⟨(ad.add (i.toNat * 7)).block, (ad.add (i.toNat * 7)).off + 6, none⟩ = some (.slice A6 (rd_T38 xs i).f6.length c6) ∧ (rd_T38 xs i).f6.length ≤ c6 ∧ Kd.string.C w A6 (rd_T38 xs i).f6.length (rd_T38 xs i).f6 := by
  obtain ⟨ad, c, e, _, hK, hc0⟩ := Kd.C_get h z38 i h0 h1
  have hc : ∀ j u, c[j]? = some u → w.cell? (ad.add (i.toNat * 7 + j)) = some u := hc0
  obtain ⟨A6, c6, rfl, l6, g6⟩ := k38_open hK
  exact ⟨ad, A6, c6, e, hc 0 _ rfl, by rw [← add_field _ _ 1 (by omega)]; exact hc 1 _ rfl, by rw [← add_field _ _ 2 (by omega)]; exact hc 2 _ rfl, by rw [← add_field _ _ 3 (by omega)]; exact hc 3 _ rfl, by rw [← add_field _ _ 4 (by omega)]; exact hc 4 _ rfl, by rw [← add_field _ _ 5 (by omega)]; exact hc 5 _ rfl, by rw [← add_field _ _ 6 (by omega)]; exact hc 6 _ rfl, l6, g6⟩
theorem ne_nil_bool (l : List UInt8) : (l != []) = !l.isEmpty := by cases l <;> rfl
end Go.Proofs.YtcoaajkhfgakgaaDoor.Pr
end

section
namespace Go.Proofs
open Go.Shelf
def Tryd.lays161_ren : Go.Shelf.Ren := ⟨fun | 161 => 44 | 231 => 57 | 227 => 58 | 233 => 59 | 235 => 60 | 228 => 71 | 197 => 72 | 151 => 73 | 260 => 87 | 152 => 88 | 137 => 56 | 119 => 97 | 224 => 84 | 225 => 83 | 217 => 70 | 266 => 86 | n => n, fun | 9 => 9 | 4 => 4 | 3 => 3 | 5 => 5 | 117 => 107 | 116 => 106 | 0 => 0 | 124 => 110 | 105 => 119 | 21 => 21 | 119 => 142 | 46 => 130 | 139 => 145 | 138 => 144 | n => n, fun | 3 => 2 | 4 => 3 | n => n⟩
theorem Tryd.lays161 : Go.Proofs.Lays.n161 Tryd.prog Tryd.lays161_ren := {
  mixed := by kernel_rfl
  f119 := Tryd.func97.trans (congrArg some (by kernel_rfl))
  f137 := Tryd.func56.trans (congrArg some (by kernel_rfl))
  f151 := Tryd.func73.trans (congrArg some (by kernel_rfl))
  f152 := Tryd.func88.trans (congrArg some (by kernel_rfl))
  f161 := Tryd.func44.trans (congrArg some (by kernel_rfl))
  f197 := Tryd.func72.trans (congrArg some (by kernel_rfl))
  f217 := Tryd.func70.trans (congrArg some (by kernel_rfl))
  f224 := Tryd.func84.trans (congrArg some (by kernel_rfl))
  f225 := Tryd.func83.trans (congrArg some (by kernel_rfl))
  f227 := Tryd.func58.trans (congrArg some (by kernel_rfl))
  f228 := Tryd.func71.trans (congrArg some (by kernel_rfl))
  f231 := Tryd.func57.trans (congrArg some (by kernel_rfl))
  f233 := Tryd.func59.trans (congrArg some (by kernel_rfl))
  f235 := Tryd.func60.trans (congrArg some (by kernel_rfl))
  f260 := Tryd.func87.trans (congrArg some (by kernel_rfl))
  f266 := Tryd.func86.trans (congrArg some (by kernel_rfl))
  t0 := Tryd.underlying0
  a0 := Tryd.isAgg0
  z0 := Tryd.sizeOf0
  v0 := Tryd.zeroValue0
  t3 := Tryd.underlying3
  a3 := Tryd.isAgg3
  z3 := Tryd.sizeOf3
  v3 := Tryd.zeroValue3
  t4 := Tryd.underlying4
  a4 := Tryd.isAgg4
  z4 := Tryd.sizeOf4
  v4 := Tryd.zeroValue4
  t5 := Tryd.underlying5
  a5 := Tryd.isAgg5
  z5 := Tryd.sizeOf5
  v5 := Tryd.zeroValue5
  t9 := Tryd.underlying9
  a9 := Tryd.isAgg9
  z9 := Tryd.sizeOf9
  v9 := Tryd.zeroValue9
  t21 := Tryd.underlying21
  a21 := Tryd.isAgg21
  z21 := Tryd.sizeOf21
  v21 := Tryd.zeroValue21
  t46 := Tryd.underlying130
  a46 := Tryd.isAgg130
  z46 := Tryd.sizeOf130
  v46 := Tryd.zeroValue130
  t105 := Tryd.underlying119
  a105 := Tryd.isAgg119
  z105 := Tryd.sizeOf119
  v105 := Tryd.zeroValue119
  t116 := Tryd.underlying106
  a116 := Tryd.isAgg106
  z116 := Tryd.sizeOf106
  t117 := Tryd.underlying107
  a117 := Tryd.isAgg107
  z117 := Tryd.sizeOf107
  v117 := Tryd.zeroValue107
  t119 := Tryd.underlying142
  a119 := Tryd.isAgg142
  z119 := Tryd.sizeOf142
  t124 := Tryd.underlying110
  a124 := Tryd.isAgg110
  z124 := Tryd.sizeOf110
  v124 := Tryd.zeroValue110
  t138 := Tryd.underlying144
  a138 := Tryd.isAgg144
  z138 := Tryd.sizeOf144
  v138 := Tryd.zeroValue144
  t139 := Tryd.underlying145
  a139 := Tryd.isAgg145
  z139 := Tryd.sizeOf145
  v139 := Tryd.zeroValue145
  g3 := by kernel_rfl
  g4 := by kernel_rfl }
open Go.RowKit in
theorem Tryd.strings_TrimLeft_one (s : ByteArray) (c : UInt8) (hc : c.toNat < 128) (w : World) :
    Calls Tryd.prog 44 #[.string s, .string ⟨#[c]⟩] w fun e w' => e = .returned (.string ⟨(Lib.trimLeftB s.data.toList c).toArray⟩) ∧ w' = w := Any.strings_TrimLeft_one Tryd.lays161 s c hc w
def Tryd.lays137_ren : Go.Shelf.Ren := ⟨fun | 137 => 56 | 217 => 70 | 266 => 86 | n => n, fun | 9 => 9 | 5 => 5 | 3 => 3 | n => n, fun | n => n⟩
theorem Tryd.lays137 : Go.Proofs.Lays.n137 Tryd.prog Tryd.lays137_ren := {
  mixed := by kernel_rfl
  f137 := Tryd.func56.trans (congrArg some (by kernel_rfl))
  f217 := Tryd.func70.trans (congrArg some (by kernel_rfl))
  f266 := Tryd.func86.trans (congrArg some (by kernel_rfl))
  t3 := Tryd.underlying3
  a3 := Tryd.isAgg3
  z3 := Tryd.sizeOf3
  v3 := Tryd.zeroValue3
  t5 := Tryd.underlying5
  a5 := Tryd.isAgg5
  z5 := Tryd.sizeOf5
  v5 := Tryd.zeroValue5
  t9 := Tryd.underlying9
  a9 := Tryd.isAgg9
  z9 := Tryd.sizeOf9
  v9 := Tryd.zeroValue9 }
open Go.RowKit in
theorem Tryd.strings_IndexByte (s : ByteArray) (c : Int) (w : World) :
    Calls Tryd.prog 56 #[.string s, .int .u8 c] w fun e w' => e = .returned (.int .i64 (Lib.indexByte s.data.toList c.toNat.toUInt8)) ∧ w' = w := Any.strings_IndexByte Tryd.lays137 s c w
def Tryd.lays172_ren : Go.Shelf.Ren := ⟨fun | 172 => 61 | 244 => 74 | 245 => 75 | 247 => 89 | 279 => 90 | 280 => 91 | 281 => 92 | 282 => 93 | 287 => 98 | 316 => 99 | 171 => 27 | 205 => 100 | 321 => 101 | 322 => 102 | 243 => 39 | 246 => 53 | 283 => 65 | 284 => 66 | 285 => 67 | 286 => 68 | 129 => 79 | 317 => 78 | 318 => 80 | 319 => 81 | 320 => 82 | 337 => 94 | 338 => 95 | n => n, fun | 9 => 9 | 3 => 3 | 75 => 72 | 76 => 73 | 4 => 4 | 5 => 5 | 167 => 133 | 37 => 68 | 0 => 0 | 85 => 134 | 2 => 2 | 168 => 136 | 53 => 113 | 175 => 147 | 46 => 130 | 210 => 150 | 127 => 88 | 145 => 157 | 143 => 155 | 21 => 21 | 171 => 112 | 173 => 116 | 212 => 126 | 51 => 127 | 20 => 20 | 213 => 128 | 232 => 152 | 233 => 153 | 80 => 77 | n => n, fun | 15 => 4 | 16 => 5 | 17 => 0 | 18 => 6 | 19 => 7 | n => n⟩
def Tryd.laysC172_ren : Go.Shelf.Ren := ⟨fun | 172 => 61 | 244 => 74 | 245 => 75 | 247 => 89 | 279 => 90 | 280 => 91 | 281 => 92 | 282 => 93 | 287 => 98 | 316 => 99 | 171 => 27 | 205 => 100 | 321 => 101 | 322 => 102 | 243 => 39 | 246 => 53 | 283 => 65 | 284 => 66 | 285 => 67 | 286 => 68 | 129 => 79 | 317 => 78 | 318 => 80 | 319 => 81 | 320 => 82 | 337 => 94 | 338 => 95 | n => n, fun | 9 => 9 | 3 => 3 | 75 => 72 | 76 => 73 | 4 => 4 | 5 => 5 | 167 => 133 | 37 => 68 | 0 => 0 | 85 => 134 | 2 => 2 | 168 => 136 | 53 => 113 | 175 => 147 | 46 => 130 | 210 => 150 | 127 => 88 | 145 => 157 | 143 => 155 | 21 => 21 | 171 => 112 | 173 => 116 | 212 => 126 | 51 => 127 | 20 => 20 | 213 => 128 | 232 => 152 | 233 => 153 | 80 => 77 | n => n, fun | 15 => 4 | 16 => 5 | 17 => 0 | 18 => 6 | 19 => 7 | n => n⟩
theorem Tryd.laysC172 : Go.Proofs.LaysC.n172 Tryd.prog Tryd.laysC172_ren := {
  mixed := by kernel_rfl
  f129 := Tryd.func79.trans (congrArg some (by kernel_rfl))
  f171 := Tryd.func27.trans (congrArg some (by kernel_rfl))
  f172 := Tryd.func61.trans (congrArg some (by kernel_rfl))
  f205 := Tryd.func100.trans (congrArg some (by kernel_rfl))
  f243 := Tryd.func39.trans (congrArg some (by kernel_rfl))
  f244 := Tryd.func74.trans (congrArg some (by kernel_rfl))
  f245 := Tryd.func75.trans (congrArg some (by kernel_rfl))
  f246 := Tryd.func53.trans (congrArg some (by kernel_rfl))
  f247 := Tryd.func89.trans (congrArg some (by kernel_rfl))
  f279 := Tryd.func90.trans (congrArg some (by kernel_rfl))
  f280 := Tryd.func91.trans (congrArg some (by kernel_rfl))
  f281 := Tryd.func92.trans (congrArg some (by kernel_rfl))
  f282 := Tryd.func93.trans (congrArg some (by kernel_rfl))
  f283 := Tryd.func65.trans (congrArg some (by kernel_rfl))
  f284 := Tryd.func66.trans (congrArg some (by kernel_rfl))
  f285 := Tryd.func67.trans (congrArg some (by kernel_rfl))
  f286 := Tryd.func68.trans (congrArg some (by kernel_rfl))
  f287 := Tryd.func98.trans (congrArg some (by kernel_rfl))
  f316 := Tryd.func99.trans (congrArg some (by kernel_rfl))
  f317 := Tryd.func78.trans (congrArg some (by kernel_rfl))
  f318 := Tryd.func80.trans (congrArg some (by kernel_rfl))
  f319 := Tryd.func81.trans (congrArg some (by kernel_rfl))
  f320 := Tryd.func82.trans (congrArg some (by kernel_rfl))
  f321 := Tryd.func101.trans (congrArg some (by kernel_rfl))
  f322 := Tryd.func102.trans (congrArg some (by kernel_rfl))
  f337 := Tryd.func94.trans (congrArg some (by kernel_rfl))
  f338 := Tryd.func95.trans (congrArg some (by kernel_rfl))
  t0 := Tryd.underlying0
  a0 := Tryd.isAgg0
  z0 := Tryd.sizeOf0
  v0 := Tryd.zeroValue0
  t2 := Tryd.underlying2
  a2 := Tryd.isAgg2
  z2 := Tryd.sizeOf2
  v2 := Tryd.zeroValue2
  t3 := Tryd.underlying3
  a3 := Tryd.isAgg3
  z3 := Tryd.sizeOf3
  v3 := Tryd.zeroValue3
  t4 := Tryd.underlying4
  a4 := Tryd.isAgg4
  z4 := Tryd.sizeOf4
  v4 := Tryd.zeroValue4
  t5 := Tryd.underlying5
  a5 := Tryd.isAgg5
  z5 := Tryd.sizeOf5
  v5 := Tryd.zeroValue5
  t9 := Tryd.underlying9
  a9 := Tryd.isAgg9
  z9 := Tryd.sizeOf9
  v9 := Tryd.zeroValue9
  t20 := Tryd.underlying20
  a20 := Tryd.isAgg20
  z20 := Tryd.sizeOf20
  v20 := Tryd.zeroValue20
  t21 := Tryd.underlying21
  a21 := Tryd.isAgg21
  z21 := Tryd.sizeOf21
  v21 := Tryd.zeroValue21
  t37 := Tryd.underlying68
  a37 := Tryd.isAgg68
  z37 := Tryd.sizeOf68
  v37 := Tryd.zeroValue68
  t46 := Tryd.underlying130
  a46 := Tryd.isAgg130
  z46 := Tryd.sizeOf130
  v46 := Tryd.zeroValue130
  t51 := Tryd.underlying127
  a51 := Tryd.isAgg127
  z51 := Tryd.sizeOf127
  v51 := Tryd.zeroValue127
  t53 := Tryd.underlying113
  a53 := Tryd.isAgg113
  z53 := Tryd.sizeOf113
  v53 := Tryd.zeroValue113
  t75 := Tryd.underlying72
  a75 := Tryd.isAgg72
  z75 := Tryd.sizeOf72
  v75 := Tryd.zeroValue72
  t76 := Tryd.underlying73
  a76 := Tryd.isAgg73
  z76 := Tryd.sizeOf73
  v76 := Tryd.zeroValue73
  t85 := Tryd.underlying134
  a85 := Tryd.isAgg134
  z85 := Tryd.sizeOf134
  v85 := Tryd.zeroValue134
  t127 := Tryd.underlying88
  a127 := Tryd.isAgg88
  z127 := Tryd.sizeOf88
  v127 := Tryd.zeroValue88
  t143 := Tryd.underlying155
  a143 := Tryd.isAgg155
  z143 := Tryd.sizeOf155
  v143 := Tryd.zeroValue155
  t145 := Tryd.underlying157
  a145 := Tryd.isAgg157
  z145 := Tryd.sizeOf157
  v145 := Tryd.zeroValue157
  t167 := Tryd.underlying133
  a167 := Tryd.isAgg133
  z167 := Tryd.sizeOf133
  v167 := Tryd.zeroValue133
  t168 := Tryd.underlying136
  a168 := Tryd.isAgg136
  z168 := Tryd.sizeOf136
  v168 := Tryd.zeroValue136
  t171 := Tryd.underlying112
  a171 := Tryd.isAgg112
  z171 := Tryd.sizeOf112
  v171 := Tryd.zeroValue112
  t173 := Tryd.underlying116
  a173 := Tryd.isAgg116
  z173 := Tryd.sizeOf116
  v173 := Tryd.zeroValue116
  t175 := Tryd.underlying147
  a175 := Tryd.isAgg147
  z175 := Tryd.sizeOf147
  v175 := Tryd.zeroValue147
  t210 := Tryd.underlying150
  a210 := Tryd.isAgg150
  z210 := Tryd.sizeOf150
  v210 := Tryd.zeroValue150
  t212 := Tryd.underlying126
  a212 := Tryd.isAgg126
  z212 := Tryd.sizeOf126
  v212 := Tryd.zeroValue126
  t213 := Tryd.underlying128
  a213 := Tryd.isAgg128
  z213 := Tryd.sizeOf128
  t232 := Tryd.underlying152
  a232 := Tryd.isAgg152
  z232 := Tryd.sizeOf152
  v232 := Tryd.zeroValue152
  t233 := Tryd.underlying153
  a233 := Tryd.isAgg153
  z233 := Tryd.sizeOf153
  v233 := Tryd.zeroValue153
  g15 := by kernel_rfl
  g16 := by kernel_rfl
  g17 := by kernel_rfl
  g18 := by kernel_rfl
  g19 := by kernel_rfl
  t80 := Tryd.underlying77
  a80 := Tryd.isAgg77
  z80 := Tryd.sizeOf77
  v80 := Tryd.zeroValue77
  i0 := by kernel_rfl
  i2 := by kernel_rfl
  i3 := by kernel_rfl
  i4 := by kernel_rfl
  i5 := by kernel_rfl
  i9 := by kernel_rfl
  i20 := by kernel_rfl
  i21 := by kernel_rfl
  i37 := by kernel_rfl
  i46 := by kernel_rfl
  i51 := by kernel_rfl
  i53 := by kernel_rfl
  i75 := by kernel_rfl
  i76 := by kernel_rfl
  i80 := by kernel_rfl
  i85 := by kernel_rfl
  i127 := by kernel_rfl
  i143 := by kernel_rfl
  i145 := by kernel_rfl
  i167 := by kernel_rfl
  i168 := by kernel_rfl
  i171 := by kernel_rfl
  i173 := by kernel_rfl
  i175 := by kernel_rfl
  i210 := by kernel_rfl
  i212 := by kernel_rfl
  i232 := by kernel_rfl
  i233 := by kernel_rfl
  m15 := by kernel_rfl
  m16 := by kernel_rfl
  m17 := by kernel_rfl
  m18 := by kernel_rfl
  m19 := by kernel_rfl
  c0 := by kernel_rfl
  c2 := by kernel_rfl
  c3 := by kernel_rfl
  c4 := by kernel_rfl
  c5 := by kernel_rfl
  c9 := by kernel_rfl
  c20 := by kernel_rfl
  c21 := by kernel_rfl
  c37 := by kernel_rfl
  c46 := by kernel_rfl
  c51 := by kernel_rfl
  c53 := by kernel_rfl
  c75 := by kernel_rfl
  c76 := by kernel_rfl
  c80 := by kernel_rfl
  c85 := by kernel_rfl
  c127 := by kernel_rfl
  c143 := by kernel_rfl
  c145 := by kernel_rfl
  c167 := by kernel_rfl
  c168 := by kernel_rfl
  c171 := by kernel_rfl
  c173 := by kernel_rfl
  c175 := by kernel_rfl
  c210 := by kernel_rfl
  c212 := by kernel_rfl
  c213 := by kernel_rfl
  c232 := by kernel_rfl
  c233 := by kernel_rfl }
open Go.RowKit in
theorem Tryd.strconv_Atoi_ok (s : ByteArray) (hmax : s.size ≤ 9223372036854775806) (v : Int) (h : Lib.atoiAll s.data.toList = .ok v) (w : World) :
    Calls Tryd.prog 61 #[.string s] w fun e w' => e = .returned (.tuple #[.int .i64 v, .nilIface]) ∧ (w' = w ∨ ∃ t, w' = Lib.bytesWorld w 5 t) := Any.strconv_Atoi_ok Tryd.laysC172 s hmax v h w
open Go.RowKit in
theorem Tryd.strconv_Atoi_range_var (s : ByteArray) (hlim : s.size ≤ 281474976710656) (h : Lib.atoiAll s.data.toList = .range) (tp : TypeId) (p : Value) (w : World) (hvar : w.var? Tryd.prog "strconv.ErrRange" = some #[.iface tp p]) :
    Calls Tryd.prog 61 #[.string s] w fun e w' => ∃ N, e = .returned (.tuple #[.int .i64 (Lib.atoiSat s.data.toList), .iface 136 (.pointer (some ⟨N, 0, none⟩))]) ∧ w.heap.size ≤ N ∧ w'.heap[N]? = some (.cells #[.string ⟨#[65, 116, 111, 105]⟩, .string s, .iface tp p] 150 (0, 0)) ∧ Below w.heap.size w w' := Any.strconv_Atoi_range_var Tryd.laysC172 s hlim h tp p w hvar
def Tryd.lays219_ren : Go.Shelf.Ren := ⟨fun | 219 => 69 | 217 => 70 | 225 => 83 | 224 => 84 | 267 => 85 | 266 => 86 | 314 => 96 | n => n, fun | 9 => 9 | 3 => 3 | 4 => 4 | 5 => 5 | 46 => 130 | 146 => 140 | 51 => 127 | n => n, fun | 1 => 1 | n => n⟩
theorem Tryd.lays219 : Go.Proofs.Lays.n219 Tryd.prog Tryd.lays219_ren := {
  mixed := by kernel_rfl
  f217 := Tryd.func70.trans (congrArg some (by kernel_rfl))
  f219 := Tryd.func69.trans (congrArg some (by kernel_rfl))
  f224 := Tryd.func84.trans (congrArg some (by kernel_rfl))
  f225 := Tryd.func83.trans (congrArg some (by kernel_rfl))
  f266 := Tryd.func86.trans (congrArg some (by kernel_rfl))
  f267 := Tryd.func85.trans (congrArg some (by kernel_rfl))
  f314 := Tryd.func96.trans (congrArg some (by kernel_rfl))
  t3 := Tryd.underlying3
  a3 := Tryd.isAgg3
  z3 := Tryd.sizeOf3
  v3 := Tryd.zeroValue3
  t4 := Tryd.underlying4
  a4 := Tryd.isAgg4
  z4 := Tryd.sizeOf4
  v4 := Tryd.zeroValue4
  t5 := Tryd.underlying5
  a5 := Tryd.isAgg5
  z5 := Tryd.sizeOf5
  v5 := Tryd.zeroValue5
  t9 := Tryd.underlying9
  a9 := Tryd.isAgg9
  z9 := Tryd.sizeOf9
  v9 := Tryd.zeroValue9
  t46 := Tryd.underlying130
  a46 := Tryd.isAgg130
  z46 := Tryd.sizeOf130
  v46 := Tryd.zeroValue130
  t51 := Tryd.underlying127
  a51 := Tryd.isAgg127
  z51 := Tryd.sizeOf127
  v51 := Tryd.zeroValue127
  t146 := Tryd.underlying140
  a146 := Tryd.isAgg140
  z146 := Tryd.sizeOf140
  v146 := Tryd.zeroValue140
  g1 := by kernel_rfl }
open Go.RowKit Go.Lib in
theorem Tryd.stringslite_Index_one (s : ByteArray) (c : UInt8) (w : World) :
    Calls Tryd.prog 69 #[.string s, .string ⟨#[c]⟩] w fun e w' => e = .returned (.int .i64 (Lib.indexByte s.data.toList c)) ∧ w' = w := Any.stringslite_Index_one Tryd.lays219 s c w
def Tryd.laysNm216_ren : Go.Shelf.Ren := ⟨fun | 16 => 19 | n => n, fun | 24 => 27 | 9 => 9 | 4 => 4 | n => n, fun | n => n⟩
theorem Tryd.laysNm216 : Go.Proofs.Lays2.n16 Tryd.prog Tryd.laysNm216_ren := {
  mixed := by kernel_rfl
  f16 := Tryd.func19.trans (congrArg some (by kernel_rfl))
  t4 := Tryd.underlying4
  a4 := Tryd.isAgg4
  z4 := Tryd.sizeOf4
  v4 := Tryd.zeroValue4
  t9 := Tryd.underlying9
  a9 := Tryd.isAgg9
  z9 := Tryd.sizeOf9
  v9 := Tryd.zeroValue9
  t24 := Tryd.underlying27
  a24 := Tryd.isAgg27
  z24 := Tryd.sizeOf27
  v24 := Tryd.zeroValue27
  i9 := by kernel_rfl }
open Go.RowKit Go.Lib in
theorem Tryd.slices_Clone_string (b off n c : Nat) (zs : List ByteArray) (w : World) (hz : n ≤ zs.length) (hbig : n * 16 ≤ 140737488355328) (hc : ∀ j, j < zs.length → w.cell? ⟨b, off + j, none⟩ = some (.string (zs.getD j ByteArray.empty))) :
    Calls Tryd.prog 19 #[.slice (some ⟨b, off, none⟩) n c] w fun e w' => ∃ v', e = .returned v' ∧ w'.ownsRow w.heap.size 9 1 v' n ((zs.take n).map (Value.string)) ∧ v' ≠ .slice none 0 0 ∧ Below w.heap.size w w' := Any.slices_Clone_string Tryd.laysNm216 b off n c zs w hz hbig hc
open Go.RowKit Go.Lib in
theorem Tryd.slices_Clone_string_nil (n c : Nat) (w : World) :
    Calls Tryd.prog 19 #[.slice none n c] w fun e w' => e = .returned (.slice none 0 0) ∧ w' = w := Any.slices_Clone_string_nil Tryd.laysNm216 n c w
open Go.RowKit Go.Lib in
theorem Tryd.slices_Clone_string_zero (a : Addr) (c : Nat) (w : World) :
    Calls Tryd.prog 19 #[.slice (some a) 0 c] w fun e w' => ∃ v', e = .returned v' ∧ w'.ownsRow w.heap.size 9 1 v' 0 [] ∧ v' ≠ .slice none 0 0 ∧ Below w.heap.size w w' := Any.slices_Clone_string_zero Tryd.laysNm216 a c w
end Go.Proofs
end

section
namespace Go.Proofs.YtcoaajkhfgakgaaDoor.Pr
open Go.RowKit Go.Shelf Go.Proofs.YtcoaajkhfgakgaaDoorW.PrintWords Go.Proofs.YtcoaajkhfgakgaaDoorW.PrintLast Go.Proofs.YtcoaajkhfgakgaaDoorW.PrintMore
set_option linter.unusedVariables false
set_option linter.unusedSimpArgs false
theorem var_below {w W : World} {n : String} {cs : Array Value} (hb : Below w.heap.size w W) (h : w.var? Tryd.prog n = some cs) : W.var? Tryd.prog n = some cs := by
  unfold World.var? at h ⊢
  cases hg : Tryd.prog.globalNamed n with
  | none => simp [hg] at h
  | some g =>
    simp only [hg, Option.bind_some] at h ⊢
    have hlt : g < w.heap.size := by
      rcases Nat.lt_or_ge g w.heap.size with h' | h'
      · exact h'
      · simp [Array.getElem?_eq_none h'] at h
    rw [hb.block g hlt]
    exact h
structure GL (w : World) : Prop where
  stx : ∃ tp p, w.var? Tryd.prog "strconv.ErrSyntax" = some #[.iface tp p]
  rng : ∃ tp p, w.var? Tryd.prog "strconv.ErrRange" = some #[.iface tp p]
  pow : Lib.TabIs Tryd.prog w "internal/strconv.uint64pow10" .u64 Lib.pow10Tab
theorem GL.below {w W : World} (h : GL w) (hb : Below w.heap.size w W) : GL W := by
  refine ⟨?_, ?_, ?_⟩
  · obtain ⟨tp, p, h1⟩ := h.stx
    exact ⟨tp, p, var_below hb h1⟩
  · obtain ⟨tp, p, h1⟩ := h.rng
    exact ⟨tp, p, var_below hb h1⟩
  · exact var_below hb h.pow
theorem strconv_Atoi_any (s : ByteArray) (hs : s.size ≤ 140737488351232) (w : World) (hG : GL w) :
    Calls Tryd.prog 61 #[.string s] w fun e w' => ∃ (m : Int) (er : Value), e = .returned (.tuple #[.int .i64 m, er]) ∧ Below w.heap.size w w' ∧
      ((Lib.atoiAll s.data.toList = .ok m ∧ er = .nilIface) ∨ ((∀ v, Lib.atoiAll s.data.toList ≠ .ok v) ∧ ∃ a, er = .iface 136 (.pointer (some a)))) := by
  rcases hv : Lib.atoiAll s.data.toList with v | _ | _
  · refine (Tryd.strconv_Atoi_ok s (by omega) v hv w).mono ?_
    rintro e w' ⟨rfl, hw⟩
    refine ⟨v, _, rfl, ?_, .inl ⟨rfl, rfl⟩⟩
    rcases hw with rfl | ⟨t, rfl⟩
    · exact Below.refl _ _
    · exact bytes_below (Below.refl _ _) (Nat.le_refl _) _ _
  · obtain ⟨tp, p, h1⟩ := hG.stx
    have hc : Calls Tryd.prog 61 #[.string s] w fun e w' => ∃ N, e = .returned (.tuple #[.int .i64 0, .iface 136 (.pointer (some ⟨N, 0, none⟩))]) ∧ w.heap.size ≤ N ∧ w'.heap[N]? = some (.cells #[.string ⟨#[65, 116, 111, 105]⟩, .string s, .iface tp p] 150 (0, 0)) ∧ Below w.heap.size w w' :=
      Any.strconv_Atoi_syntax_var Tryd.laysC172 s (by omega) hv tp p w h1
    refine hc.mono ?_
    rintro e w' ⟨N, rfl, _, _, hb⟩
    exact ⟨_, _, rfl, hb, .inr ⟨(fun _ h => by cases h), _, rfl⟩⟩
  · obtain ⟨tp, p, h1⟩ := hG.rng
    refine (Tryd.strconv_Atoi_range_var s (by omega) hv tp p w h1).mono ?_
    rintro e w' ⟨N, rfl, _, _, hb⟩
    exact ⟨_, _, rfl, hb, .inr ⟨(fun _ h => by cases h), _, rfl⟩⟩
end Go.Proofs.YtcoaajkhfgakgaaDoor.Pr
end

section
namespace Go.Proofs.YtcoaajkhfgakgaaDoor.Pr
open Go.RowKit Go.Proofs.YtcoaajkhfgakgaaDoorW.PrintWords Go.Proofs.YtcoaajkhfgakgaaDoorW.PrintLast Go.Proofs.YtcoaajkhfgakgaaDoorW.PrintMore
attribute [local go_sem] max2_int min2_int max_two min_two max_three min_three max_four min_four   -- for this text's walks alone
set_option linter.unusedVariables false
set_option linter.unusedSimpArgs false
def sign_Number.l0 : Nat → ByteArray → Int → Int → Int → Option (Int × Bool)
  | 0, _, _, _, _ => none
  | k + 1, x0, x4, x7, x8 => if x8 < x7 then (if 0 ≤ x8 then (if x8 < (x0.size : Int) then (if (bt x0 x8) < 48 then (some (0, false)) else (if (bt x0 x8) > 57 then (some (0, false)) else (sign_Number.l0 k x0 (mn (wrap64 ((wrap64 (10 * x4)) + (((bt x0 x8) - 48) % 256))) 2147483648) x7 (wrap64 (x8 + 1))))) else (none)) else (none)) else (some (x4, (x0.toList != ([] : List UInt8))))
def sign_Number.f (k : Nat) (a0 : ByteArray) : Option (Int × Bool) := sign_Number.l0 k a0 0 (a0.size : Int) 0
theorem sign_Number.mono_l : ∀ k, (∀ y0 y1 y2 y3, LeO (sign_Number.l0 k y0 y1 y2 y3) (sign_Number.l0 (k + 1) y0 y1 y2 y3))
  | 0 => fun _ _ _ _ r h => by simp [sign_Number.l0] at h
  | k + 1 => by
    have ih0 := sign_Number.mono_l k
    · intro y0 y1 y2 y3
      unfold sign_Number.l0
      repeat' first
      | (with_reducible exact ih0 _ _ _ _)
      | (with_reducible exact LeO.refl _)
      | (with_reducible exact LeO.none _)
      | (with_reducible refine LeO.ite ?_ ?_)
      | (with_reducible refine LeO.bind ?_ (fun _ => ?_))
      | exact ih0 _ _ _ _
      | exact LeO.none _
      | refine LeO.ite ?_ ?_
      | refine LeO.bind ?_ (fun _ => ?_)
theorem sign_Number.mono : ∀ a0 k, LeO (sign_Number.f k a0) (sign_Number.f (k + 1) a0) := by
  intro a0 k
  have ih0 := sign_Number.mono_l k
  unfold sign_Number.f
  repeat' first
      | (with_reducible exact ih0 _ _ _ _)
      | (with_reducible exact LeO.refl _)
      | (with_reducible exact LeO.none _)
      | (with_reducible refine LeO.ite ?_ ?_)
      | (with_reducible refine LeO.bind ?_ (fun _ => ?_))
      | exact ih0 _ _ _ _
      | exact LeO.none _
      | refine LeO.ite ?_ ?_
      | refine LeO.bind ?_ (fun _ => ?_)
set_option maxHeartbeats 8000000 in
set_option maxRecDepth 100000 in
theorem sign_Number.calls (k : Nat) (a0 : ByteArray) (r1 : Int) (r2 : Bool) (w : World) (h : sign_Number.f k a0 = some (r1, r2)) :
    Calls Tryd.prog 41 #[.string a0] w fun e w' => e = .returned (.tuple #[.int .i64 r1, .bool r2]) ∧ Below w.heap.size w w' := by
  have HB := Aside0.mk (Below.refl w.heap.size w)
  have H : (sign_Number.l0 k a0 0 (a0.size : Int) 0) = some (r1, r2) := h
  clear h
  have H' := Aside0.mk H
  clear H
  go_enter Tryd.func41, Tryd.ntmps41
  go_wp2
  go_loopg [4, 8] k (fun kq v4 v8 w' => ∃ (x4_1 : Int) (x8_1 : Int), v4 = .int .i64 x4_1 ∧ v8 = .int .i64 x8_1 ∧ Aside0 (sign_Number.l0 kq a0 x4_1 (a0.size : Int) x8_1 = some (r1, r2)) ∧ Aside0 (kq ≤ k) ∧ Aside0 (Below w.heap.size w w'))
  case atStart => exact ⟨(0), (0), (by first | rfl | (simp; done) | (simp [*]; done)), (by first | rfl | (simp; done) | (simp [*]; done)), H', ⟨Nat.le_refl _⟩, ⟨by repeat (first | (with_reducible first | exact HB.out | apply below_alloc | apply pw_below_drewN | apply below_drew1) | exact HB.out)⟩⟩
  case round =>
    clear H'
    obtain ⟨x4_1, x8_1, rfl, rfl, HA, HK1, HB⟩ := hrel
    cases gk with
    | zero => exact absurd HA.out (by simp [sign_Number.l0])
    | succ k1 =>
      have H := HA.out
      clear HA
      simp only [sign_Number.l0] at H
      by_cases c2 : x8_1 < (a0.size : Int)
      · rw [if_pos c2] at H
        have c2b0 : decide (x8_1 < (a0.size : Int)) = true := decide_eq_true c2
        clear c2
        by_cases c3 : 0 ≤ x8_1
        · rw [if_pos c3] at H
          have c3b0 : decide (0 ≤ x8_1) = true := decide_eq_true c3
          clear c3
          by_cases c4 : x8_1 < (a0.size : Int)
          · rw [if_pos c4] at H
            have c4b0 : decide (x8_1 < (a0.size : Int)) = true := decide_eq_true c4
            clear c4
            by_cases c6 : (bt a0 x8_1) < 48
            · rw [if_pos c6] at H
              have c6b0 : decide ((bt a0 x8_1) < 48) = true := decide_eq_true c6
              clear c6
              simp only [Option.some.injEq, Prod.mk.injEq] at H
              obtain ⟨rfl, rfl⟩ := H
              have p5 : 0 ≤ (x8_1 : Int) := of_decide_eq_true (by first | (with_reducible assumption) | assumption)
              have q5 : x8_1 < (a0.size : Int) := of_decide_eq_true (by first | (with_reducible assumption) | assumption)
              have hx5 := bt_at a0 x8_1
              replace p5 := eq_true p5
              replace q5 := eq_true q5
              go_wp2
              go_ret2
              exact ⟨by first | rfl | (simp [errW_none, errW_some] <;> rfl) | (simp [*, errW_none, errW_some] <;> rfl) | (simp only [ne_nil_bool]; rfl), by repeat (first | (with_reducible first | exact HB.out | apply below_alloc | apply pw_below_drewN | apply below_drew1) | exact HB.out)⟩
            · rw [if_neg c6] at H
              have c6b0 : decide ((bt a0 x8_1) < 48) = false := decide_eq_false c6
              clear c6
              by_cases c8 : (bt a0 x8_1) > 57
              · rw [if_pos c8] at H
                have c8b0 : decide (57 < (bt a0 x8_1)) = true := decide_eq_true c8
                clear c8
                simp only [Option.some.injEq, Prod.mk.injEq] at H
                obtain ⟨rfl, rfl⟩ := H
                have p5 : 0 ≤ (x8_1 : Int) := of_decide_eq_true (by first | (with_reducible assumption) | assumption)
                have q5 : x8_1 < (a0.size : Int) := of_decide_eq_true (by first | (with_reducible assumption) | assumption)
                have hx5 := bt_at a0 x8_1
                replace p5 := eq_true p5
                replace q5 := eq_true q5
                have p7 : 0 ≤ (x8_1 : Int) := of_decide_eq_true (by first | (with_reducible assumption) | assumption)
                have q7 : x8_1 < (a0.size : Int) := of_decide_eq_true (by first | (with_reducible assumption) | assumption)
                have hx7 := bt_at a0 x8_1
                replace p7 := eq_true p7
                replace q7 := eq_true q7
                go_wp2
                go_ret2
                exact ⟨by first | rfl | (simp [errW_none, errW_some] <;> rfl) | (simp [*, errW_none, errW_some] <;> rfl) | (simp only [ne_nil_bool]; rfl), by repeat (first | (with_reducible first | exact HB.out | apply below_alloc | apply pw_below_drewN | apply below_drew1) | exact HB.out)⟩
              · rw [if_neg c8] at H
                have c8b0 : decide (57 < (bt a0 x8_1)) = false := decide_eq_false c8
                clear c8
                obtain ⟨ji10, hji10⟩ : ∃ j_ : Int, (mn (wrap64 ((wrap64 (10 * x4_1)) + (((bt a0 x8_1) - 48) % 256))) 2147483648) = j_ := ⟨_, rfl⟩
                replace H : (sign_Number.l0 k1 a0 ji10 (a0.size : Int) (wrap64 (x8_1 + 1))) = some (r1, r2) := by first | (rw [hji10] at H; exact H) | (simp only [hji10] at H ⊢; exact H)
                have hji10_ : (if 2147483648 < (wrap64 ((wrap64 (10 * x4_1)) + (((bt a0 x8_1) - 48) % 256))) then 2147483648 else (wrap64 ((wrap64 (10 * x4_1)) + (((bt a0 x8_1) - 48) % 256)))) = ji10 := hji10
                have H' := Aside0.mk H
                clear H
                have p5 : 0 ≤ (x8_1 : Int) := of_decide_eq_true (by first | (with_reducible assumption) | assumption)
                have q5 : x8_1 < (a0.size : Int) := of_decide_eq_true (by first | (with_reducible assumption) | assumption)
                have hx5 := bt_at a0 x8_1
                replace p5 := eq_true p5
                replace q5 := eq_true q5
                have p7 : 0 ≤ (x8_1 : Int) := of_decide_eq_true (by first | (with_reducible assumption) | assumption)
                have q7 : x8_1 < (a0.size : Int) := of_decide_eq_true (by first | (with_reducible assumption) | assumption)
                have hx7 := bt_at a0 x8_1
                replace p7 := eq_true p7
                replace q7 := eq_true q7
                have p9 : 0 ≤ (x8_1 : Int) := of_decide_eq_true (by first | (with_reducible assumption) | assumption)
                have q9 : x8_1 < (a0.size : Int) := of_decide_eq_true (by first | (with_reducible assumption) | assumption)
                have hx9 := bt_at a0 x8_1
                replace p9 := eq_true p9
                replace q9 := eq_true q9
                go_wp2
                go_roundg k1
                case measure => have := HK1.out; omega
                case rel => exact ⟨(ji10), (wrap64 (x8_1 + 1)), (by first | rfl | (simp; done) | (simp only [← hji10] <;> (first | rfl | simp)) | (simp [*]; done)), (by first | rfl | (simp; done) | (simp [*]; done)), H', ⟨by have := HK1.out; omega⟩, ⟨by repeat (first | (with_reducible first | exact HB.out | apply below_alloc | apply pw_below_drewN | apply below_drew1) | exact HB.out)⟩⟩
          · rw [if_neg c4] at H
            exact absurd H (by simp)
        · rw [if_neg c3] at H
          exact absurd H (by simp)
      · rw [if_neg c2] at H
        have c2b0 : decide (x8_1 < (a0.size : Int)) = false := decide_eq_false c2
        clear c2
        simp only [Option.some.injEq, Prod.mk.injEq] at H
        obtain ⟨rfl, rfl⟩ := H
        go_wp2
        go_ret2
        exact ⟨by first | rfl | (simp [errW_none, errW_some] <;> rfl) | (simp [*, errW_none, errW_some] <;> rfl) | (simp only [ne_nil_bool]; rfl), by repeat (first | (with_reducible first | exact HB.out | apply below_alloc | apply pw_below_drewN | apply below_drew1) | exact HB.out)⟩
end Go.Proofs.YtcoaajkhfgakgaaDoor.Pr
end

section
namespace Go.Proofs.YtcoaajkhfgakgaaDoor.Pr
open Go.RowKit Go.Proofs.YtcoaajkhfgakgaaDoorW.PrintWords Go.Proofs.YtcoaajkhfgakgaaDoorW.PrintLast Go.Proofs.YtcoaajkhfgakgaaDoorW.PrintMore
attribute [local go_sem] max2_int min2_int max_two min_two max_three min_three max_four min_four   -- for this text's walks alone
set_option linter.unusedVariables false
set_option linter.unusedSimpArgs false
def sign_letter.f (a0 : Int) : Option (Bool) := if a0 ≥ 97 then (if a0 ≤ 122 then (some true) else (if a0 ≥ 65 then (if a0 ≤ 90 then (some true) else (if a0 ≥ 48 then (some (decide (a0 ≤ 57))) else (some false))) else (if a0 ≥ 48 then (some (decide (a0 ≤ 57))) else (some false)))) else (if a0 ≥ 65 then (if a0 ≤ 90 then (some true) else (if a0 ≥ 48 then (some (decide (a0 ≤ 57))) else (some false))) else (if a0 ≥ 48 then (some (decide (a0 ≤ 57))) else (some false)))
set_option maxHeartbeats 8000000 in
set_option maxRecDepth 100000 in
theorem sign_letter.calls (a0 : Int) (r : Bool) (w : World) (h : sign_letter.f a0 = some r) :
    Calls Tryd.prog 76 #[.int .u8 a0] w fun e w' => e = .returned (.bool r) ∧ Drawn0 w w' := by
  have H : (if a0 ≥ 97 then (if a0 ≤ 122 then (some true) else (if a0 ≥ 65 then (if a0 ≤ 90 then (some true) else (if a0 ≥ 48 then (some (decide (a0 ≤ 57))) else (some false))) else (if a0 ≥ 48 then (some (decide (a0 ≤ 57))) else (some false)))) else (if a0 ≥ 65 then (if a0 ≤ 90 then (some true) else (if a0 ≥ 48 then (some (decide (a0 ≤ 57))) else (some false))) else (if a0 ≥ 48 then (some (decide (a0 ≤ 57))) else (some false)))) = some r := h
  clear h
  by_cases c2 : a0 ≥ 97
  · rw [if_pos c2] at H
    have c2b0 : decide (97 ≤ a0) = true := decide_eq_true c2
    clear c2
    by_cases c3 : a0 ≤ 122
    · rw [if_pos c3] at H
      have c3b0 : decide (a0 ≤ 122) = true := decide_eq_true c3
      clear c3
      obtain rfl := Option.some.inj H
      go_enter Tryd.func76, Tryd.ntmps76
      go_wp2
      go_ret
      exact ⟨by first | rfl | (simp; done) | (simp [*]; done) | (simp only [ne_nil_bool]; rfl), by repeat (first | exact Drawn0.refl _ | apply Drawn0.step)⟩
    · rw [if_neg c3] at H
      have c3b0 : decide (a0 ≤ 122) = false := decide_eq_false c3
      clear c3
      by_cases c4 : a0 ≥ 65
      · rw [if_pos c4] at H
        have c4b0 : decide (65 ≤ a0) = true := decide_eq_true c4
        clear c4
        by_cases c5 : a0 ≤ 90
        · rw [if_pos c5] at H
          have c5b0 : decide (a0 ≤ 90) = true := decide_eq_true c5
          clear c5
          obtain rfl := Option.some.inj H
          go_enter Tryd.func76, Tryd.ntmps76
          go_wp2
          go_ret
          exact ⟨by first | rfl | (simp; done) | (simp [*]; done) | (simp only [ne_nil_bool]; rfl), by repeat (first | exact Drawn0.refl _ | apply Drawn0.step)⟩
        · rw [if_neg c5] at H
          have c5b0 : decide (a0 ≤ 90) = false := decide_eq_false c5
          clear c5
          by_cases c6 : a0 ≥ 48
          · rw [if_pos c6] at H
            have c6b0 : decide (48 ≤ a0) = true := decide_eq_true c6
            clear c6
            obtain rfl := Option.some.inj H
            go_enter Tryd.func76, Tryd.ntmps76
            go_wp2
            go_ret
            exact ⟨by first | rfl | (simp; done) | (simp [*]; done) | (simp only [ne_nil_bool]; rfl), by repeat (first | exact Drawn0.refl _ | apply Drawn0.step)⟩
          · rw [if_neg c6] at H
            have c6b0 : decide (48 ≤ a0) = false := decide_eq_false c6
            clear c6
            obtain rfl := Option.some.inj H
            go_enter Tryd.func76, Tryd.ntmps76
            go_wp2
            go_ret
            exact ⟨by first | rfl | (simp; done) | (simp [*]; done) | (simp only [ne_nil_bool]; rfl), by repeat (first | exact Drawn0.refl _ | apply Drawn0.step)⟩
      · rw [if_neg c4] at H
        have c4b0 : decide (65 ≤ a0) = false := decide_eq_false c4
        clear c4
        by_cases c7 : a0 ≥ 48
        · rw [if_pos c7] at H
          have c7b0 : decide (48 ≤ a0) = true := decide_eq_true c7
          clear c7
          obtain rfl := Option.some.inj H
          go_enter Tryd.func76, Tryd.ntmps76
          go_wp2
          go_ret
          exact ⟨by first | rfl | (simp; done) | (simp [*]; done) | (simp only [ne_nil_bool]; rfl), by repeat (first | exact Drawn0.refl _ | apply Drawn0.step)⟩
        · rw [if_neg c7] at H
          have c7b0 : decide (48 ≤ a0) = false := decide_eq_false c7
          clear c7
          obtain rfl := Option.some.inj H
          go_enter Tryd.func76, Tryd.ntmps76
          go_wp2
          go_ret
          exact ⟨by first | rfl | (simp; done) | (simp [*]; done) | (simp only [ne_nil_bool]; rfl), by repeat (first | exact Drawn0.refl _ | apply Drawn0.step)⟩
  · rw [if_neg c2] at H
    have c2b0 : decide (97 ≤ a0) = false := decide_eq_false c2
    clear c2
    by_cases c8 : a0 ≥ 65
    · rw [if_pos c8] at H
      have c8b0 : decide (65 ≤ a0) = true := decide_eq_true c8
      clear c8
      by_cases c9 : a0 ≤ 90
      · rw [if_pos c9] at H
        have c9b0 : decide (a0 ≤ 90) = true := decide_eq_true c9
        clear c9
        obtain rfl := Option.some.inj H
        go_enter Tryd.func76, Tryd.ntmps76
        go_wp2
        go_ret
        exact ⟨by first | rfl | (simp; done) | (simp [*]; done) | (simp only [ne_nil_bool]; rfl), by repeat (first | exact Drawn0.refl _ | apply Drawn0.step)⟩
      · rw [if_neg c9] at H
        have c9b0 : decide (a0 ≤ 90) = false := decide_eq_false c9
        clear c9
        by_cases c10 : a0 ≥ 48
        · rw [if_pos c10] at H
          have c10b0 : decide (48 ≤ a0) = true := decide_eq_true c10
          clear c10
          obtain rfl := Option.some.inj H
          go_enter Tryd.func76, Tryd.ntmps76
          go_wp2
          go_ret
          exact ⟨by first | rfl | (simp; done) | (simp [*]; done) | (simp only [ne_nil_bool]; rfl), by repeat (first | exact Drawn0.refl _ | apply Drawn0.step)⟩
        · rw [if_neg c10] at H
          have c10b0 : decide (48 ≤ a0) = false := decide_eq_false c10
          clear c10
          obtain rfl := Option.some.inj H
          go_enter Tryd.func76, Tryd.ntmps76
          go_wp2
          go_ret
          exact ⟨by first | rfl | (simp; done) | (simp [*]; done) | (simp only [ne_nil_bool]; rfl), by repeat (first | exact Drawn0.refl _ | apply Drawn0.step)⟩
    · rw [if_neg c8] at H
      have c8b0 : decide (65 ≤ a0) = false := decide_eq_false c8
      clear c8
      by_cases c11 : a0 ≥ 48
      · rw [if_pos c11] at H
        have c11b0 : decide (48 ≤ a0) = true := decide_eq_true c11
        clear c11
        obtain rfl := Option.some.inj H
        go_enter Tryd.func76, Tryd.ntmps76
        go_wp2
        go_ret
        exact ⟨by first | rfl | (simp; done) | (simp [*]; done) | (simp only [ne_nil_bool]; rfl), by repeat (first | exact Drawn0.refl _ | apply Drawn0.step)⟩
      · rw [if_neg c11] at H
        have c11b0 : decide (48 ≤ a0) = false := decide_eq_false c11
        clear c11
        obtain rfl := Option.some.inj H
        go_enter Tryd.func76, Tryd.ntmps76
        go_wp2
        go_ret
        exact ⟨by first | rfl | (simp; done) | (simp [*]; done) | (simp only [ne_nil_bool]; rfl), by repeat (first | exact Drawn0.refl _ | apply Drawn0.step)⟩
end Go.Proofs.YtcoaajkhfgakgaaDoor.Pr
end

section
namespace Go.Proofs.YtcoaajkhfgakgaaDoor.Pr
open Go.RowKit Go.Proofs.YtcoaajkhfgakgaaDoorW.PrintWords Go.Proofs.YtcoaajkhfgakgaaDoorW.PrintLast Go.Proofs.YtcoaajkhfgakgaaDoorW.PrintMore
set_option linter.unusedVariables false
set_option linter.unusedSimpArgs false
def strings_IndexByte.f (a0 : ByteArray) (a1 : Int) : Option Int := some (Lib.indexByte a0.data.toList a1.toNat.toUInt8)
theorem strings_IndexByte.calls (a0 : ByteArray) (a1 : Int) (r : Int) (w : World) (h : strings_IndexByte.f a0 a1 = some r) :
    Calls Tryd.prog 56 #[.string a0, .int .u8 a1] w fun e w' => e = .returned (.int .i64 r) ∧ Drawn0 w w' := by
  injection h with h
  subst h
  refine (Tryd.strings_IndexByte a0 a1 w).mono ?_
  rintro e w' ⟨rfl, rfl⟩
  exact ⟨rfl, Drawn0.refl _⟩
end Go.Proofs.YtcoaajkhfgakgaaDoor.Pr
end

section
namespace Go.Proofs.YtcoaajkhfgakgaaDoor.Pr
open Go.RowKit Go.Proofs.YtcoaajkhfgakgaaDoorW.PrintWords Go.Proofs.YtcoaajkhfgakgaaDoorW.PrintLast Go.Proofs.YtcoaajkhfgakgaaDoorW.PrintMore
attribute [local go_sem] max2_int min2_int max_two min_two max_three min_three max_four min_four   -- for this text's walks alone
set_option linter.unusedVariables false
set_option linter.unusedSimpArgs false
def sign_Token.l0 : Nat → ByteArray → Int → Int → Option (Bool)
  | 0, _, _, _ => none
  | k + 1, x0, x5, x6 => if x6 < x5 then (if 0 ≤ x6 then (if x6 < (x0.size : Int) then ((sign_letter.f (bt x0 x6)).bind fun t361 => (if t361 = true then (sign_Token.l0 k x0 x5 (wrap64 (x6 + 1))) else ((strings_IndexByte.f (⟨#[33, 35, 36, 37, 38, 39, 42, 43, 45, 46, 94, 95, 124, 126, 96]⟩ : ByteArray) (bt x0 x6)).bind fun t362 => (if t362 < 0 then (some false) else (sign_Token.l0 k x0 x5 (wrap64 (x6 + 1))))))) else (none)) else (none)) else (some (x0.toList != ([] : List UInt8)))
def sign_Token.f (k : Nat) (a0 : ByteArray) : Option (Bool) := sign_Token.l0 k a0 (a0.size : Int) 0
theorem sign_Token.mono_l : ∀ k, (∀ y0 y1 y2, LeO (sign_Token.l0 k y0 y1 y2) (sign_Token.l0 (k + 1) y0 y1 y2))
  | 0 => fun _ _ _ r h => by simp [sign_Token.l0] at h
  | k + 1 => by
    have ih0 := sign_Token.mono_l k
    · intro y0 y1 y2
      unfold sign_Token.l0
      repeat' first
      | (with_reducible exact ih0 _ _ _)
      | (with_reducible exact LeO.refl _)
      | (with_reducible exact LeO.none _)
      | (with_reducible refine LeO.ite ?_ ?_)
      | (with_reducible refine LeO.bind ?_ (fun _ => ?_))
      | exact ih0 _ _ _
      | exact LeO.none _
      | refine LeO.ite ?_ ?_
      | refine LeO.bind ?_ (fun _ => ?_)
theorem sign_Token.mono : ∀ a0 k, LeO (sign_Token.f k a0) (sign_Token.f (k + 1) a0) := by
  intro a0 k
  have ih0 := sign_Token.mono_l k
  unfold sign_Token.f
  repeat' first
      | (with_reducible exact ih0 _ _ _)
      | (with_reducible exact LeO.refl _)
      | (with_reducible exact LeO.none _)
      | (with_reducible refine LeO.ite ?_ ?_)
      | (with_reducible refine LeO.bind ?_ (fun _ => ?_))
      | exact ih0 _ _ _
      | exact LeO.none _
      | refine LeO.ite ?_ ?_
      | refine LeO.bind ?_ (fun _ => ?_)
set_option maxHeartbeats 8000000 in
set_option maxRecDepth 100000 in
theorem sign_Token.calls (k : Nat) (a0 : ByteArray) (r : Bool) (w : World) (h : sign_Token.f k a0 = some r) :
    Calls Tryd.prog 63 #[.string a0] w fun e w' => e = .returned (.bool r) ∧ Drawn0 w w' := by
  have H : (sign_Token.l0 k a0 (a0.size : Int) 0) = some r := h
  clear h
  have H' := Aside0.mk H
  clear H
  go_enter Tryd.func63, Tryd.ntmps63
  go_wp2
  go_loopg [6] k (fun kq v6 w' => ∃ (x6_1 : Int), v6 = .int .i64 x6_1 ∧ Aside0 (sign_Token.l0 kq a0 (a0.size : Int) x6_1 = some r) ∧ Aside0 (kq ≤ k) ∧ Drawn0 w w')
  case atStart => exact ⟨(0), (by first | rfl | (simp; done) | (simp [*]; done)), H', ⟨Nat.le_refl _⟩, by repeat (first | exact Drawn0.refl _ | apply Drawn0.step)⟩
  case round =>
    clear H'
    obtain ⟨x6_1, rfl, HA, HK1, ⟨m1, rfl⟩⟩ := hrel
    cases gk with
    | zero => exact absurd HA.out (by simp [sign_Token.l0])
    | succ k1 =>
      have H := HA.out
      clear HA
      simp only [sign_Token.l0] at H
      by_cases c2 : x6_1 < (a0.size : Int)
      · rw [if_pos c2] at H
        have c2b0 : decide (x6_1 < (a0.size : Int)) = true := decide_eq_true c2
        clear c2
        by_cases c3 : 0 ≤ x6_1
        · rw [if_pos c3] at H
          have c3b0 : decide (0 ≤ x6_1) = true := decide_eq_true c3
          clear c3
          by_cases c4 : x6_1 < (a0.size : Int)
          · rw [if_pos c4] at H
            have c4b0 : decide (x6_1 < (a0.size : Int)) = true := decide_eq_true c4
            clear c4
            replace H := Option.bind_eq_some_iff.mp H
            obtain ⟨t361, A60, H⟩ := H
            replace H : (if t361 = true then (sign_Token.l0 k1 a0 (a0.size : Int) (wrap64 (x6_1 + 1))) else ((strings_IndexByte.f (⟨#[33, 35, 36, 37, 38, 39, 42, 43, 45, 46, 94, 95, 124, 126, 96]⟩ : ByteArray) (bt a0 x6_1)).bind fun t362 => (if t362 < 0 then (some false) else (sign_Token.l0 k1 a0 (a0.size : Int) (wrap64 (x6_1 + 1)))))) = some r := H
            have A6 := Aside0.mk A60
            clear A60
            by_cases c7 : t361 = true
            · subst c7
              have H1 : (sign_Token.l0 k1 a0 (a0.size : Int) (wrap64 (x6_1 + 1))) = some r := by rw [if_pos rfl] at H; exact H
              clear H
              have H := H1
              clear H1
              have H' := Aside0.mk H
              clear H
              have p5 : 0 ≤ (x6_1 : Int) := of_decide_eq_true (by first | (with_reducible assumption) | assumption)
              have q5 : x6_1 < (a0.size : Int) := of_decide_eq_true (by first | (with_reducible assumption) | assumption)
              have hx5 := bt_at a0 x6_1
              replace p5 := eq_true p5
              replace q5 := eq_true q5
              go_wp2_with (first | ((with_reducible refine gate_callee (f := 76) rfl ?_); refine goesL_ (some 12) rfl rfl Tryd.func76 (by kernel_rfl) rfl #[.int .u8 (bt a0 x6_1)] rfl (by (try simp only [List.map_toArray, List.map_cons, List.map_nil]); first | done | rfl | (simp only [List.length_drop, List.length_take]; rfl)) ?_; (with_reducible refine (sign_letter.calls (bt a0 x6_1) true _ A6.out).mono ?_); rintro e w' ⟨rfl, ⟨nd, rfl⟩⟩; refine ⟨_, rfl, ?_⟩))
              go_roundg k1
              case measure => have := HK1.out; omega
              case rel => exact ⟨(wrap64 (x6_1 + 1)), (by first | rfl | (simp; done) | (simp [*]; done)), H', ⟨by have := HK1.out; omega⟩, by repeat (first | exact Drawn0.refl _ | apply Drawn0.step)⟩
            · replace c7 := Bool.eq_false_iff.mpr c7
              subst c7
              have H1 : ((strings_IndexByte.f (⟨#[33, 35, 36, 37, 38, 39, 42, 43, 45, 46, 94, 95, 124, 126, 96]⟩ : ByteArray) (bt a0 x6_1)).bind fun t362 => (if t362 < 0 then (some false) else (sign_Token.l0 k1 a0 (a0.size : Int) (wrap64 (x6_1 + 1))))) = some r := by rw [if_neg (show ¬ (false = true) by decide)] at H; exact H
              clear H
              have H := H1
              clear H1
              replace H := Option.bind_eq_some_iff.mp H
              obtain ⟨t362, A90, H⟩ := H
              replace H : (if t362 < 0 then (some false) else (sign_Token.l0 k1 a0 (a0.size : Int) (wrap64 (x6_1 + 1)))) = some r := H
              have A9 := Aside0.mk A90
              clear A90
              by_cases c10 : t362 < 0
              · rw [if_pos c10] at H
                have c10b0 : decide (t362 < 0) = true := decide_eq_true c10
                clear c10
                obtain rfl := Option.some.inj H
                have p5 : 0 ≤ (x6_1 : Int) := of_decide_eq_true (by first | (with_reducible assumption) | assumption)
                have q5 : x6_1 < (a0.size : Int) := of_decide_eq_true (by first | (with_reducible assumption) | assumption)
                have hx5 := bt_at a0 x6_1
                replace p5 := eq_true p5
                replace q5 := eq_true q5
                go_wp2_with (first | ((with_reducible refine gate_callee (f := 76) rfl ?_); refine goesL_ (some 12) rfl rfl Tryd.func76 (by kernel_rfl) rfl #[.int .u8 (bt a0 x6_1)] rfl (by (try simp only [List.map_toArray, List.map_cons, List.map_nil]); first | done | rfl | (simp only [List.length_drop, List.length_take]; rfl)) ?_; (with_reducible refine (sign_letter.calls (bt a0 x6_1) false _ A6.out).mono ?_); rintro e w' ⟨rfl, ⟨nd, rfl⟩⟩; refine ⟨_, rfl, ?_⟩; have p8 : 0 ≤ (x6_1 : Int) := of_decide_eq_true (by first | (with_reducible assumption) | assumption); have q8 : x6_1 < (a0.size : Int) := of_decide_eq_true (by first | (with_reducible assumption) | assumption); have hx8 := bt_at a0 x6_1; replace p8 := eq_true p8; replace q8 := eq_true q8) | (go_at_call 56; (with_reducible refine (strings_IndexByte.calls (⟨#[33, 35, 36, 37, 38, 39, 42, 43, 45, 46, 94, 95, 124, 126, 96]⟩ : ByteArray) (bt a0 x6_1) t362 _ A9.out).mono ?_); rintro e w' ⟨rfl, ⟨nd, rfl⟩⟩))
                go_ret
                exact ⟨by first | rfl | (simp; done) | (simp [*]; done) | (simp only [ne_nil_bool]; rfl), by repeat (first | exact Drawn0.refl _ | apply Drawn0.step)⟩
              · rw [if_neg c10] at H
                have c10b0 : decide (t362 < 0) = false := decide_eq_false c10
                clear c10
                have H' := Aside0.mk H
                clear H
                have p5 : 0 ≤ (x6_1 : Int) := of_decide_eq_true (by first | (with_reducible assumption) | assumption)
                have q5 : x6_1 < (a0.size : Int) := of_decide_eq_true (by first | (with_reducible assumption) | assumption)
                have hx5 := bt_at a0 x6_1
                replace p5 := eq_true p5
                replace q5 := eq_true q5
                go_wp2_with (first | ((with_reducible refine gate_callee (f := 76) rfl ?_); refine goesL_ (some 12) rfl rfl Tryd.func76 (by kernel_rfl) rfl #[.int .u8 (bt a0 x6_1)] rfl (by (try simp only [List.map_toArray, List.map_cons, List.map_nil]); first | done | rfl | (simp only [List.length_drop, List.length_take]; rfl)) ?_; (with_reducible refine (sign_letter.calls (bt a0 x6_1) false _ A6.out).mono ?_); rintro e w' ⟨rfl, ⟨nd, rfl⟩⟩; refine ⟨_, rfl, ?_⟩; have p8 : 0 ≤ (x6_1 : Int) := of_decide_eq_true (by first | (with_reducible assumption) | assumption); have q8 : x6_1 < (a0.size : Int) := of_decide_eq_true (by first | (with_reducible assumption) | assumption); have hx8 := bt_at a0 x6_1; replace p8 := eq_true p8; replace q8 := eq_true q8) | (go_at_call 56; (with_reducible refine (strings_IndexByte.calls (⟨#[33, 35, 36, 37, 38, 39, 42, 43, 45, 46, 94, 95, 124, 126, 96]⟩ : ByteArray) (bt a0 x6_1) t362 _ A9.out).mono ?_); rintro e w' ⟨rfl, ⟨nd, rfl⟩⟩))
                go_roundg k1
                case measure => have := HK1.out; omega
                case rel => exact ⟨(wrap64 (x6_1 + 1)), (by first | rfl | (simp; done) | (simp [*]; done)), H', ⟨by have := HK1.out; omega⟩, by repeat (first | exact Drawn0.refl _ | apply Drawn0.step)⟩
          · rw [if_neg c4] at H
            exact absurd H (by simp)
        · rw [if_neg c3] at H
          exact absurd H (by simp)
      · rw [if_neg c2] at H
        have c2b0 : decide (x6_1 < (a0.size : Int)) = false := decide_eq_false c2
        clear c2
        obtain rfl := Option.some.inj H
        go_wp2
        go_ret
        exact ⟨by first | rfl | (simp; done) | (simp [*]; done) | (simp only [ne_nil_bool]; rfl), by repeat (first | exact Drawn0.refl _ | apply Drawn0.step)⟩
end Go.Proofs.YtcoaajkhfgakgaaDoor.Pr
end

section
namespace Go.Proofs.YtcoaajkhfgakgaaDoor.Pr
open Go.RowKit Go.Proofs.YtcoaajkhfgakgaaDoorW.PrintWords Go.Proofs.YtcoaajkhfgakgaaDoorW.PrintLast Go.Proofs.YtcoaajkhfgakgaaDoorW.PrintMore
set_option linter.unusedVariables false
set_option linter.unusedSimpArgs false
def lowC (c : Int) : Int := if 65 ≤ c ∧ c ≤ 90 then c + 32 else c
def lowS (s : ByteArray) : ByteArray := strOfNums ((bytesOf s).map lowC)
def sign_Lower.f (a0 : ByteArray) : Option ByteArray := if a0.size ≤ 140737488351232 then some (lowS a0) else none
theorem lowC_great {c : Int} (h1 : 65 ≤ c) (h2 : c ≤ 90) : lowC c = c - 65 + 97 := by unfold lowC; rw [if_pos ⟨h1, h2⟩]; omega
theorem lowC_else {c : Int} (h : c < 65 ∨ 90 < c) : lowC c = c := by unfold lowC; rw [if_neg (by omega)]
set_option maxHeartbeats 1000000 in
theorem sign_Lower.calls (a0 : ByteArray) (r : ByteArray) (w : World) (h : sign_Lower.f a0 = some r) :
    Calls Tryd.prog 43 #[.string a0] w fun e w' => e = .returned (.string r) ∧ Below w.heap.size w w' := by
  have hs : a0.size ≤ 140737488351232 := by
    unfold sign_Lower.f at h
    split at h
    · assumption
    · cases h
  obtain rfl : lowS a0 = r := by
    unfold sign_Lower.f at h
    rw [if_pos hs] at h
    injection h
  clear h
  have kb := fun W => print_bytes (P := Tryd.prog) 9 68 5 Tryd.underlying9 Tryd.underlying68 Tryd.underlying5 a0 W
  have hb0 : Aside0 (Below w.heap.size w (Lib.bytesWorld w 5 a0)) := ⟨bytes_below (Below.refl _ _) (Nat.le_refl _) _ _⟩
  have hr0 : Aside0 (RowB (Lib.bytesWorld w 5 a0) w.heap.size (bytesOf a0)) := ⟨RowB.bytes w a0⟩
  have hlen : (bytesOf a0).length ≤ a0.size := Nat.le_of_eq (bytesOf_length a0)
  have hlen2 : a0.size ≤ (bytesOf a0).length := Nat.le_of_eq (bytesOf_length a0).symm
  have hrng : ∀ c ∈ bytesOf a0, 0 ≤ c ∧ c ≤ 255 := by
    intro c hc
    simp only [bytesOf, List.mem_map] at hc
    obtain ⟨b, _, rfl⟩ := hc
    have := b.toNat_lt
    omega
  have Hrng : Aside0 (∀ c ∈ bytesOf a0, 0 ≤ c ∧ c ≤ 255) := ⟨hrng⟩
  clear hrng
  go_enter Tryd.func43, Tryd.ntmps43
  go_wp2
  generalize Lib.bytesWorld w 5 a0 = w1 at hb0 hr0 ⊢
  generalize grownCap w a0.size 0 5 = cp at *
  go_loopw [4, 5, 10] (fun _ _ i wr => ∃ k : Nat, k ≤ a0.size ∧ i = .int .i64 k ∧ Aside0 (RowB wr w.heap.size (((bytesOf a0).take k).map lowC ++ (bytesOf a0).drop k)) ∧ Aside0 (Below w.heap.size w wr)) (fun _ _ i _ => a0.size - (intOf i).toNat)
  case atStart => exact ⟨0, Nat.zero_le _, rfl, ⟨by simpa using hr0.out⟩, hb0⟩
  case round =>
    obtain ⟨k, hk, rfl, hrow, hbel⟩ := hrel
    clear hr0 hb0
    by_cases hlt : k < a0.size
    · have hkl : k < (bytesOf a0).length := by omega
      have hll : k < (((bytesOf a0).take k).map lowC ++ (bytesOf a0).drop k).length := by simp; omega
      obtain ⟨hcell, hfrz⟩ := hrow.out k hll
      rw [getD_map_take _ _ hkl] at hcell
      have hc := Hrng.out (bytesOf a0)[k] (List.getElem_mem hkl)
      have HS : Aside0 (∀ v, v = lowC (bytesOf a0)[k] → RowB (wr.setCell ⟨w.heap.size, k, none⟩ (.int .u8 v)) w.heap.size (((bytesOf a0).take (k + 1)).map lowC ++ (bytesOf a0).drop (k + 1))) := ⟨fun v hv => by
        rw [hv]
        have := hrow.out.set k (lowC (bytesOf a0)[k])
        rwa [set_map_take lowC _ _ hkl] at this⟩
      have HE : Aside0 (lowC (bytesOf a0)[k] = (bytesOf a0)[k] → RowB wr w.heap.size (((bytesOf a0).take (k + 1)).map lowC ++ (bytesOf a0).drop (k + 1))) := ⟨fun hv => by
        have e := set_map_take lowC _ _ hkl
        rw [hv] at e
        rw [← e]
        have hid : (((bytesOf a0).take k).map lowC ++ (bytesOf a0).drop k).set k (bytesOf a0)[k] = ((bytesOf a0).take k).map lowC ++ (bytesOf a0).drop k := by
          have h2 : (((bytesOf a0).take k).map lowC ++ (bytesOf a0).drop k)[k] = (bytesOf a0)[k] := by
            have := getD_map_take (f := lowC) _ _ hkl
            rw [List.getD_eq_getElem?_getD, List.getElem?_eq_getElem hll] at this
            exact this
          rw [← h2, List.set_getElem_self]
        rw [hid]
        exact hrow.out⟩
      have HB1 : Aside0 (∀ v, Below w.heap.size w (wr.setCell ⟨w.heap.size, k, none⟩ v)) := ⟨fun v => hbel.out.setCell (Nat.le_refl _) _⟩
      generalize (bytesOf a0)[k] = c at *
      clear hrow
      by_cases h1 : 65 ≤ c
      · by_cases h2 : c ≤ 90
        · have hv := lowC_great h1 h2
          have hv : Aside0 (c - 65 + 97 = lowC c) := ⟨hv.symm⟩
          go_wp2
          go_roundw
          case rel => exact ⟨k + 1, by omega, by go_num, ⟨HS.out _ hv.out⟩, ⟨HB1.out _⟩⟩
          case measure => simp [intOf]; omega
        · have hv : Aside0 (lowC c = c) := ⟨lowC_else (by omega)⟩
          go_wp2
          go_roundw
          case rel => exact ⟨k + 1, by omega, by go_num, ⟨HE.out hv.out⟩, hbel⟩
          case measure => simp [intOf]; omega
      · have hv : Aside0 (lowC c = c) := ⟨lowC_else (by omega)⟩
        go_wp2
        go_roundw
        case rel => exact ⟨k + 1, by omega, by go_num, ⟨HE.out hv.out⟩, hbel⟩
        case measure => simp [intOf]; omega
    · have hke : k = a0.size := by omega
      have hx : ((bytesOf a0).take k).map lowC ++ (bytesOf a0).drop k = (bytesOf a0).map lowC := by
        rw [List.take_of_length_le (by omega), List.drop_eq_nil_of_le (by omega), List.append_nil]
      have hrow2 := hrow.out
      rw [hx] at hrow2
      have hl2 : ((bytesOf a0).map lowC).length = a0.size := by rw [List.length_map, bytesOf_length]
      have hrd := hrow2.reads (by omega)
      rw [hl2] at hrd
      have hcv := string_of_reads (P := Tryd.prog) (src := 68) (dst := 9) (c := cp) Tryd.underlying68 Tryd.underlying5 Tryd.underlying9 hrd
      have hf : Aside0 (strOfNums ((bytesOf a0).map lowC) = lowS a0) := ⟨rfl⟩
      have hl3 : Aside0 (((bytesOf a0).map lowC).length = a0.size) := ⟨hl2⟩
      clear hrow hrow2 hx hrd hke hl2
      generalize (bytesOf a0).map lowC = ys at *
      go_wp2
      go_ret
      exact ⟨congrArg (fun z => Ending.returned (.string z)) hf.out, hbel.out⟩
end Go.Proofs.YtcoaajkhfgakgaaDoor.Pr
end

section
namespace Go.Proofs.YtcoaajkhfgakgaaDoor.Pr
open Go.RowKit Go.Proofs.YtcoaajkhfgakgaaDoorW.PrintWords Go.Proofs.YtcoaajkhfgakgaaDoorW.PrintLast Go.Proofs.YtcoaajkhfgakgaaDoorW.PrintMore
attribute [local go_sem] max2_int min2_int max_two min_two max_three min_three max_four min_four   -- for this text's walks alone
set_option linter.unusedVariables false
set_option linter.unusedSimpArgs false
def conf_head.f (k : Nat) (a0 : ByteArray) : Option (Bool) := (sign_Token.f k a0).bind fun t363 => (if t363 = true then ((sign_Lower.f a0).bind fun t364 => (if t364.toList = a0.toList then (some (decide ((a0.size : Int) ≤ 64))) else (some false))) else (some false))
theorem conf_head.mono : ∀ a0 k, LeO (conf_head.f k a0) (conf_head.f (k + 1) a0) := by
  intro a0 k
  unfold conf_head.f
  repeat' first
      | (with_reducible exact sign_Token.mono _ _)
      | (with_reducible exact LeO.refl _)
      | (with_reducible exact LeO.none _)
      | (with_reducible refine LeO.ite ?_ ?_)
      | (with_reducible refine LeO.bind ?_ (fun _ => ?_))
      | exact sign_Token.mono _ _
      | exact LeO.none _
      | refine LeO.ite ?_ ?_
      | refine LeO.bind ?_ (fun _ => ?_)
set_option maxHeartbeats 8000000 in
set_option maxRecDepth 100000 in
theorem conf_head.calls (k : Nat) (a0 : ByteArray) (r : Bool) (w : World) (h : conf_head.f k a0 = some r) :
    Calls Tryd.prog 50 #[.string a0] w fun e w' => e = .returned (.bool r) ∧ Below w.heap.size w w' := by
  have HB := Aside0.mk (Below.refl w.heap.size w)
  have H : ((sign_Token.f k a0).bind fun t363 => (if t363 = true then ((sign_Lower.f a0).bind fun t364 => (if t364.toList = a0.toList then (some (decide ((a0.size : Int) ≤ 64))) else (some false))) else (some false))) = some r := h
  clear h
  replace H := Option.bind_eq_some_iff.mp H
  obtain ⟨t363, A20, H⟩ := H
  replace H : (if t363 = true then ((sign_Lower.f a0).bind fun t364 => (if t364.toList = a0.toList then (some (decide ((a0.size : Int) ≤ 64))) else (some false))) else (some false)) = some r := H
  have A2 := Aside0.mk A20
  clear A20
  by_cases c3 : t363 = true
  · subst c3
    have H1 : ((sign_Lower.f a0).bind fun t364 => (if t364.toList = a0.toList then (some (decide ((a0.size : Int) ≤ 64))) else (some false))) = some r := by rw [if_pos rfl] at H; exact H
    clear H
    have H := H1
    clear H1
    replace H := Option.bind_eq_some_iff.mp H
    obtain ⟨t364, A40, H⟩ := H
    replace H : (if t364.toList = a0.toList then (some (decide ((a0.size : Int) ≤ 64))) else (some false)) = some r := H
    have A4 := Aside0.mk A40
    clear A40
    by_cases c5 : t364.toList = a0.toList
    · rw [if_pos c5] at H
      have c5b0 : (t364.toList == a0.toList) = true := beq_iff_eq.mpr c5
      have c5b1 : (t364.toList != a0.toList) = false := bne_eq_false_iff_eq.mpr c5
      clear c5
      obtain rfl := Option.some.inj H
      go_enter Tryd.func50, Tryd.ntmps50
      go_wp2_with (first | ((with_reducible refine gate_callee (f := 63) rfl ?_); refine goesL_ (some 4) rfl rfl Tryd.func63 (by kernel_rfl) rfl #[.string a0] rfl (by (try simp only [List.map_toArray, List.map_cons, List.map_nil]); first | done | rfl | (simp only [List.length_drop, List.length_take]; rfl)) ?_; (with_reducible refine (sign_Token.calls k a0 true _ A2.out).mono ?_); rintro e w' ⟨rfl, ⟨nd, rfl⟩⟩; refine ⟨_, rfl, ?_⟩) | (go_at_call 43; (with_reducible refine (sign_Lower.calls a0 t364 _ A4.out).mono ?_); rintro e w6 ⟨rfl, hb⟩; have n0_ := Aside0.mk (below_step (by repeat (first | (with_reducible first | exact HB.out | apply below_alloc | apply pw_below_drewN | apply below_drew1) | exact HB.out)) hb); clear HB; have HB := n0_; clear n0_; (try clear hb); (try clear hb2); (try clear hk); (try clear hi)))
      go_ret
      exact ⟨by first | rfl | (simp [errW_none, errW_some] <;> rfl) | (simp [*, errW_none, errW_some] <;> rfl) | (simp only [ne_nil_bool]; rfl), by repeat (first | (with_reducible first | exact HB.out | apply below_alloc | apply pw_below_drewN | apply below_drew1) | exact HB.out)⟩
    · rw [if_neg c5] at H
      have c5b0 : (t364.toList == a0.toList) = false := beq_eq_false_iff_ne.mpr c5
      have c5b1 : (t364.toList != a0.toList) = true := bne_iff_ne.mpr c5
      obtain rfl := Option.some.inj H
      go_enter Tryd.func50, Tryd.ntmps50
      go_wp2_with (first | ((with_reducible refine gate_callee (f := 63) rfl ?_); refine goesL_ (some 4) rfl rfl Tryd.func63 (by kernel_rfl) rfl #[.string a0] rfl (by (try simp only [List.map_toArray, List.map_cons, List.map_nil]); first | done | rfl | (simp only [List.length_drop, List.length_take]; rfl)) ?_; (with_reducible refine (sign_Token.calls k a0 true _ A2.out).mono ?_); rintro e w' ⟨rfl, ⟨nd, rfl⟩⟩; refine ⟨_, rfl, ?_⟩) | (go_at_call 43; (with_reducible refine (sign_Lower.calls a0 t364 _ A4.out).mono ?_); rintro e w7 ⟨rfl, hb⟩; have n0_ := Aside0.mk (below_step (by repeat (first | (with_reducible first | exact HB.out | apply below_alloc | apply pw_below_drewN | apply below_drew1) | exact HB.out)) hb); clear HB; have HB := n0_; clear n0_; (try clear hb); (try clear hb2); (try clear hk); (try clear hi)))
      go_ret
      exact ⟨by first | rfl | (simp [errW_none, errW_some] <;> rfl) | (simp [*, errW_none, errW_some] <;> rfl) | (simp only [ne_nil_bool]; rfl), by repeat (first | (with_reducible first | exact HB.out | apply below_alloc | apply pw_below_drewN | apply below_drew1) | exact HB.out)⟩
  · replace c3 := Bool.eq_false_iff.mpr c3
    subst c3
    have H1 : (some false) = some r := by rw [if_neg (show ¬ (false = true) by decide)] at H; exact H
    clear H
    have H := H1
    clear H1
    obtain rfl := Option.some.inj H
    go_enter Tryd.func50, Tryd.ntmps50
    go_wp2_with (first | ((with_reducible refine gate_callee (f := 63) rfl ?_); refine goesL_ (some 4) rfl rfl Tryd.func63 (by kernel_rfl) rfl #[.string a0] rfl (by (try simp only [List.map_toArray, List.map_cons, List.map_nil]); first | done | rfl | (simp only [List.length_drop, List.length_take]; rfl)) ?_; (with_reducible refine (sign_Token.calls k a0 false _ A2.out).mono ?_); rintro e w' ⟨rfl, ⟨nd, rfl⟩⟩; refine ⟨_, rfl, ?_⟩))
    go_ret
    exact ⟨by first | rfl | (simp [errW_none, errW_some] <;> rfl) | (simp [*, errW_none, errW_some] <;> rfl) | (simp only [ne_nil_bool]; rfl), by repeat (first | (with_reducible first | exact HB.out | apply below_alloc | apply pw_below_drewN | apply below_drew1) | exact HB.out)⟩
end Go.Proofs.YtcoaajkhfgakgaaDoor.Pr
end

section
namespace Go.Proofs.YtcoaajkhfgakgaaDoor.Pr
open Go.RowKit Go.Proofs.YtcoaajkhfgakgaaDoorW.PrintWords Go.Proofs.YtcoaajkhfgakgaaDoorW.PrintLast Go.Proofs.YtcoaajkhfgakgaaDoorW.PrintMore
set_option linter.unusedVariables false
set_option linter.unusedSimpArgs false
def stringslite_Index.f (a0 : ByteArray) (a1 : ByteArray) : Option Int := match a1.data.toList with
  | [c] => some (Lib.indexByte a0.data.toList c)
  | _ => none
theorem stringslite_Index.calls (a0 : ByteArray) (a1 : ByteArray) (r : Int) (w : World) (h : stringslite_Index.f a0 a1 = some r) :
    Calls Tryd.prog 69 #[.string a0, .string a1] w fun e w' => e = .returned (.int .i64 r) ∧ Drawn0 w w' := by
  unfold stringslite_Index.f at h
  split at h
  · rename_i c hc
    injection h with h
    subst h
    obtain rfl : a1 = ⟨#[c]⟩ := by
      obtain ⟨⟨l⟩⟩ := a1
      simp only at hc
      rw [hc]
    refine (Tryd.stringslite_Index_one a0 c w).mono ?_
    rintro e w' ⟨rfl, rfl⟩
    exact ⟨rfl, Drawn0.refl _⟩
  · cases h
end Go.Proofs.YtcoaajkhfgakgaaDoor.Pr
end

section
namespace Go.Proofs.YtcoaajkhfgakgaaDoor.Pr
open Go.RowKit Go.Proofs.YtcoaajkhfgakgaaDoorW.PrintWords Go.Proofs.YtcoaajkhfgakgaaDoorW.PrintLast Go.Proofs.YtcoaajkhfgakgaaDoorW.PrintMore
attribute [local go_sem] max2_int min2_int max_two min_two max_three min_three max_four min_four   -- for this text's walks alone
set_option linter.unusedVariables false
set_option linter.unusedSimpArgs false
def stringslite_Cut.f (a0 : ByteArray) (a1 : ByteArray) : Option (ByteArray × ByteArray × Bool) := (stringslite_Index.f a0 a1).bind fun t346 => (if t346 ≥ 0 then (if 0 ≤ t346 then (if t346 ≤ (a0.size : Int) then (if 0 ≤ (wrap64 (t346 + (a1.size : Int))) then (if (wrap64 (t346 + (a1.size : Int))) ≤ (a0.size : Int) then (some (a0.extract 0 (t346 : Int).toNat, a0.extract ((wrap64 (t346 + (a1.size : Int))) : Int).toNat a0.size, true)) else (none)) else (none)) else (none)) else (none)) else (some (a0, (⟨#[]⟩ : ByteArray), false)))
set_option maxHeartbeats 8000000 in
set_option maxRecDepth 100000 in
theorem stringslite_Cut.calls (a0 : ByteArray) (a1 : ByteArray) (r1 : ByteArray) (r2 : ByteArray) (r3 : Bool) (w : World) (h : stringslite_Cut.f a0 a1 = some (r1, r2, r3)) :
    Calls Tryd.prog 54 #[.string a0, .string a1] w fun e w' => e = .returned (.tuple #[.string r1, .string r2, .bool r3]) ∧ Drawn0 w w' := by
  have H : ((stringslite_Index.f a0 a1).bind fun t346 => (if t346 ≥ 0 then (if 0 ≤ t346 then (if t346 ≤ (a0.size : Int) then (if 0 ≤ (wrap64 (t346 + (a1.size : Int))) then (if (wrap64 (t346 + (a1.size : Int))) ≤ (a0.size : Int) then (some (a0.extract 0 (t346 : Int).toNat, a0.extract ((wrap64 (t346 + (a1.size : Int))) : Int).toNat a0.size, true)) else (none)) else (none)) else (none)) else (none)) else (some (a0, (⟨#[]⟩ : ByteArray), false)))) = some (r1, r2, r3) := h
  clear h
  replace H := Option.bind_eq_some_iff.mp H
  obtain ⟨t346, A30, H⟩ := H
  replace H : (if t346 ≥ 0 then (if 0 ≤ t346 then (if t346 ≤ (a0.size : Int) then (if 0 ≤ (wrap64 (t346 + (a1.size : Int))) then (if (wrap64 (t346 + (a1.size : Int))) ≤ (a0.size : Int) then (some (a0.extract 0 (t346 : Int).toNat, a0.extract ((wrap64 (t346 + (a1.size : Int))) : Int).toNat a0.size, true)) else (none)) else (none)) else (none)) else (none)) else (some (a0, (⟨#[]⟩ : ByteArray), false))) = some (r1, r2, r3) := H
  have A3 := Aside0.mk A30
  clear A30
  by_cases c4 : t346 ≥ 0
  · rw [if_pos c4] at H
    have c4b0 : decide (0 ≤ t346) = true := decide_eq_true c4
    clear c4
    by_cases c5 : 0 ≤ t346
    · rw [if_pos c5] at H
      have c5b0 := eq_true c5
      have c5b1 : decide (0 ≤ t346) = true := decide_eq_true c5
      clear c5
      by_cases c6 : t346 ≤ (a0.size : Int)
      · rw [if_pos c6] at H
        have c6b0 := eq_true c6
        have c6b1 : decide (t346 ≤ (a0.size : Int)) = true := decide_eq_true c6
        clear c6
        obtain ⟨ji7, hji7⟩ : ∃ j_ : Int, (wrap64 (t346 + (a1.size : Int))) = j_ := ⟨_, rfl⟩
        replace H : (if 0 ≤ (ji7) then (if (ji7) ≤ (a0.size : Int) then (some (a0.extract 0 (t346 : Int).toNat, a0.extract ((ji7) : Int).toNat a0.size, true)) else (none)) else (none)) = some (r1, r2, r3) := by first | (rw [hji7] at H; exact H) | (simp only [hji7] at H ⊢; exact H)
        (try rw [hji7] at A3)
        have hji7w : (IntKind.i64.wrap (t346 + (a1.size : Int))) = ji7 := (i64_w _).trans hji7
        by_cases c8 : 0 ≤ (ji7)
        · rw [if_pos c8] at H
          have c8b0 := eq_true c8
          have c8b1 : decide (0 ≤ (ji7)) = true := decide_eq_true c8
          clear c8
          by_cases c9 : (ji7) ≤ (a0.size : Int)
          · rw [if_pos c9] at H
            have c9b0 := eq_true c9
            have c9b1 : decide ((ji7) ≤ (a0.size : Int)) = true := decide_eq_true c9
            clear c9
            simp only [Option.some.injEq, Prod.mk.injEq] at H
            obtain ⟨rfl, rfl, rfl⟩ := H
            go_enter Tryd.func54, Tryd.ntmps54
            go_wp2_with (first | (go_at_call 69; (with_reducible refine (stringslite_Index.calls a0 a1 t346 _ A3.out).mono ?_); rintro e w' ⟨rfl, ⟨nd, rfl⟩⟩; (try first | exact ⟨rfl, _, World.drewN_drewN _ _ _⟩ | exact ⟨rfl, _, Eq.trans (World.drewN_drewN _ _ _) (congrArg (World.drewN _) (Nat.add_assoc _ _ _))⟩)))
            repeat (go_quiet (first | (go_at_call 69; (with_reducible refine (stringslite_Index.calls a0 a1 t346 _ A3.out).mono ?_); rintro e w' ⟨rfl, ⟨nd, rfl⟩⟩; (try first | exact ⟨rfl, _, World.drewN_drewN _ _ _⟩ | exact ⟨rfl, _, Eq.trans (World.drewN_drewN _ _ _) (congrArg (World.drewN _) (Nat.add_assoc _ _ _))⟩))); try go_wp2_with (first | (go_at_call 69; (with_reducible refine (stringslite_Index.calls a0 a1 t346 _ A3.out).mono ?_); rintro e w' ⟨rfl, ⟨nd, rfl⟩⟩; (try first | exact ⟨rfl, _, World.drewN_drewN _ _ _⟩ | exact ⟨rfl, _, Eq.trans (World.drewN_drewN _ _ _) (congrArg (World.drewN _) (Nat.add_assoc _ _ _))⟩))))
            go_ret3
            exact ⟨by first | rfl | (simp; done) | (simp only [← hji7] <;> (first | rfl | simp)) | (simp [*]; done) | (simp only [ne_nil_bool]; rfl), by repeat (first | exact Drawn0.refl _ | apply Drawn0.step)⟩
          · rw [if_neg c9] at H
            exact absurd H (by simp)
        · rw [if_neg c8] at H
          exact absurd H (by simp)
      · rw [if_neg c6] at H
        exact absurd H (by simp)
    · rw [if_neg c5] at H
      exact absurd H (by simp)
  · rw [if_neg c4] at H
    have c4b0 : decide (0 ≤ t346) = false := decide_eq_false c4
    clear c4
    simp only [Option.some.injEq, Prod.mk.injEq] at H
    obtain ⟨rfl, rfl, rfl⟩ := H
    go_enter Tryd.func54, Tryd.ntmps54
    go_wp2_with (first | (go_at_call 69; (with_reducible refine (stringslite_Index.calls a0 a1 t346 _ A3.out).mono ?_); rintro e w' ⟨rfl, ⟨nd, rfl⟩⟩; (try first | exact ⟨rfl, _, World.drewN_drewN _ _ _⟩ | exact ⟨rfl, _, Eq.trans (World.drewN_drewN _ _ _) (congrArg (World.drewN _) (Nat.add_assoc _ _ _))⟩)))
    repeat (go_quiet (first | (go_at_call 69; (with_reducible refine (stringslite_Index.calls a0 a1 t346 _ A3.out).mono ?_); rintro e w' ⟨rfl, ⟨nd, rfl⟩⟩; (try first | exact ⟨rfl, _, World.drewN_drewN _ _ _⟩ | exact ⟨rfl, _, Eq.trans (World.drewN_drewN _ _ _) (congrArg (World.drewN _) (Nat.add_assoc _ _ _))⟩))); try go_wp2_with (first | (go_at_call 69; (with_reducible refine (stringslite_Index.calls a0 a1 t346 _ A3.out).mono ?_); rintro e w' ⟨rfl, ⟨nd, rfl⟩⟩; (try first | exact ⟨rfl, _, World.drewN_drewN _ _ _⟩ | exact ⟨rfl, _, Eq.trans (World.drewN_drewN _ _ _) (congrArg (World.drewN _) (Nat.add_assoc _ _ _))⟩))))
    go_ret3
    exact ⟨by first | rfl | (simp; done) | (simp [*]; done) | (simp only [ne_nil_bool]; rfl), by repeat (first | exact Drawn0.refl _ | apply Drawn0.step)⟩
end Go.Proofs.YtcoaajkhfgakgaaDoor.Pr
end

section
namespace Go.Proofs.YtcoaajkhfgakgaaDoor.Pr
open Go.RowKit Go.Proofs.YtcoaajkhfgakgaaDoorW.PrintWords Go.Proofs.YtcoaajkhfgakgaaDoorW.PrintLast Go.Proofs.YtcoaajkhfgakgaaDoorW.PrintMore
attribute [local go_sem] max2_int min2_int max_two min_two max_three min_three max_four min_four   -- for this text's walks alone
set_option linter.unusedVariables false
set_option linter.unusedSimpArgs false
def strings_Cut.f (a0 : ByteArray) (a1 : ByteArray) : Option (ByteArray × ByteArray × Bool) := (stringslite_Cut.f a0 a1).bind fun bt347 => (some (bt347.1, bt347.2.1, bt347.2.2))
set_option maxHeartbeats 8000000 in
set_option maxRecDepth 100000 in
theorem strings_Cut.calls (a0 : ByteArray) (a1 : ByteArray) (r1 : ByteArray) (r2 : ByteArray) (r3 : Bool) (w : World) (h : strings_Cut.f a0 a1 = some (r1, r2, r3)) :
    Calls Tryd.prog 40 #[.string a0, .string a1] w fun e w' => e = .returned (.tuple #[.string r1, .string r2, .bool r3]) ∧ Drawn0 w w' := by
  have H : ((stringslite_Cut.f a0 a1).bind fun bt347 => (some (bt347.1, bt347.2.1, bt347.2.2))) = some (r1, r2, r3) := h
  clear h
  replace H := Option.bind_eq_some_iff.mp H
  obtain ⟨⟨t347, t348, t349⟩, A30, H⟩ := H
  replace H : (some (t347, t348, t349)) = some (r1, r2, r3) := H
  have A3 := Aside0.mk A30
  clear A30
  simp only [Option.some.injEq, Prod.mk.injEq] at H
  obtain ⟨rfl, rfl, rfl⟩ := H
  go_enter Tryd.func40, Tryd.ntmps40
  go_wp2_with (first | ((with_reducible refine gate_callee (f := 54) rfl ?_); refine goesL_ (some 9) rfl rfl Tryd.func54 (by kernel_rfl) rfl #[.string a0, .string a1] rfl (by (try simp only [List.map_toArray, List.map_cons, List.map_nil]); first | done | rfl | (simp only [List.length_drop, List.length_take]; rfl)) ?_; (with_reducible refine (stringslite_Cut.calls a0 a1 t347 t348 t349 _ A3.out).mono ?_); rintro e w' ⟨rfl, ⟨nd, rfl⟩⟩; refine ⟨_, rfl, ?_⟩))
  go_ret3
  exact ⟨by first | rfl | (simp; done) | (simp [*]; done) | (simp only [ne_nil_bool]; rfl), by repeat (first | exact Drawn0.refl _ | apply Drawn0.step)⟩
end Go.Proofs.YtcoaajkhfgakgaaDoor.Pr
end

section
namespace Go.Proofs.YtcoaajkhfgakgaaDoor.Pr
open Go.RowKit Go.Proofs.YtcoaajkhfgakgaaDoorW.PrintWords Go.Proofs.YtcoaajkhfgakgaaDoorW.PrintLast Go.Proofs.YtcoaajkhfgakgaaDoorW.PrintMore
attribute [local go_sem] max2_int min2_int max_two min_two max_three min_three max_four min_four   -- for this text's walks alone
set_option linter.unusedVariables false
set_option linter.unusedSimpArgs false
def place_letter.f (a0 : Int) : Option (Bool) := if a0 ≥ 97 then (if a0 ≤ 122 then (some true) else (if a0 ≥ 65 then (if a0 ≤ 90 then (some true) else (if a0 ≥ 48 then (some (decide (a0 ≤ 57))) else (some false))) else (if a0 ≥ 48 then (some (decide (a0 ≤ 57))) else (some false)))) else (if a0 ≥ 65 then (if a0 ≤ 90 then (some true) else (if a0 ≥ 48 then (some (decide (a0 ≤ 57))) else (some false))) else (if a0 ≥ 48 then (some (decide (a0 ≤ 57))) else (some false)))
set_option maxHeartbeats 8000000 in
set_option maxRecDepth 100000 in
theorem place_letter.calls (a0 : Int) (r : Bool) (w : World) (h : place_letter.f a0 = some r) :
    Calls Tryd.prog 55 #[.int .u8 a0] w fun e w' => e = .returned (.bool r) ∧ Drawn0 w w' := by
  have H : (if a0 ≥ 97 then (if a0 ≤ 122 then (some true) else (if a0 ≥ 65 then (if a0 ≤ 90 then (some true) else (if a0 ≥ 48 then (some (decide (a0 ≤ 57))) else (some false))) else (if a0 ≥ 48 then (some (decide (a0 ≤ 57))) else (some false)))) else (if a0 ≥ 65 then (if a0 ≤ 90 then (some true) else (if a0 ≥ 48 then (some (decide (a0 ≤ 57))) else (some false))) else (if a0 ≥ 48 then (some (decide (a0 ≤ 57))) else (some false)))) = some r := h
  clear h
  by_cases c2 : a0 ≥ 97
  · rw [if_pos c2] at H
    have c2b0 : decide (97 ≤ a0) = true := decide_eq_true c2
    clear c2
    by_cases c3 : a0 ≤ 122
    · rw [if_pos c3] at H
      have c3b0 : decide (a0 ≤ 122) = true := decide_eq_true c3
      clear c3
      obtain rfl := Option.some.inj H
      go_enter Tryd.func55, Tryd.ntmps55
      go_wp2
      go_ret
      exact ⟨by first | rfl | (simp; done) | (simp [*]; done) | (simp only [ne_nil_bool]; rfl), by repeat (first | exact Drawn0.refl _ | apply Drawn0.step)⟩
    · rw [if_neg c3] at H
      have c3b0 : decide (a0 ≤ 122) = false := decide_eq_false c3
      clear c3
      by_cases c4 : a0 ≥ 65
      · rw [if_pos c4] at H
        have c4b0 : decide (65 ≤ a0) = true := decide_eq_true c4
        clear c4
        by_cases c5 : a0 ≤ 90
        · rw [if_pos c5] at H
          have c5b0 : decide (a0 ≤ 90) = true := decide_eq_true c5
          clear c5
          obtain rfl := Option.some.inj H
          go_enter Tryd.func55, Tryd.ntmps55
          go_wp2
          go_ret
          exact ⟨by first | rfl | (simp; done) | (simp [*]; done) | (simp only [ne_nil_bool]; rfl), by repeat (first | exact Drawn0.refl _ | apply Drawn0.step)⟩
        · rw [if_neg c5] at H
          have c5b0 : decide (a0 ≤ 90) = false := decide_eq_false c5
          clear c5
          by_cases c6 : a0 ≥ 48
          · rw [if_pos c6] at H
            have c6b0 : decide (48 ≤ a0) = true := decide_eq_true c6
            clear c6
            obtain rfl := Option.some.inj H
            go_enter Tryd.func55, Tryd.ntmps55
            go_wp2
            go_ret
            exact ⟨by first | rfl | (simp; done) | (simp [*]; done) | (simp only [ne_nil_bool]; rfl), by repeat (first | exact Drawn0.refl _ | apply Drawn0.step)⟩
          · rw [if_neg c6] at H
            have c6b0 : decide (48 ≤ a0) = false := decide_eq_false c6
            clear c6
            obtain rfl := Option.some.inj H
            go_enter Tryd.func55, Tryd.ntmps55
            go_wp2
            go_ret
            exact ⟨by first | rfl | (simp; done) | (simp [*]; done) | (simp only [ne_nil_bool]; rfl), by repeat (first | exact Drawn0.refl _ | apply Drawn0.step)⟩
      · rw [if_neg c4] at H
        have c4b0 : decide (65 ≤ a0) = false := decide_eq_false c4
        clear c4
        by_cases c7 : a0 ≥ 48
        · rw [if_pos c7] at H
          have c7b0 : decide (48 ≤ a0) = true := decide_eq_true c7
          clear c7
          obtain rfl := Option.some.inj H
          go_enter Tryd.func55, Tryd.ntmps55
          go_wp2
          go_ret
          exact ⟨by first | rfl | (simp; done) | (simp [*]; done) | (simp only [ne_nil_bool]; rfl), by repeat (first | exact Drawn0.refl _ | apply Drawn0.step)⟩
        · rw [if_neg c7] at H
          have c7b0 : decide (48 ≤ a0) = false := decide_eq_false c7
          clear c7
          obtain rfl := Option.some.inj H
          go_enter Tryd.func55, Tryd.ntmps55
          go_wp2
          go_ret
          exact ⟨by first | rfl | (simp; done) | (simp [*]; done) | (simp only [ne_nil_bool]; rfl), by repeat (first | exact Drawn0.refl _ | apply Drawn0.step)⟩
  · rw [if_neg c2] at H
    have c2b0 : decide (97 ≤ a0) = false := decide_eq_false c2
    clear c2
    by_cases c8 : a0 ≥ 65
    · rw [if_pos c8] at H
      have c8b0 : decide (65 ≤ a0) = true := decide_eq_true c8
      clear c8
      by_cases c9 : a0 ≤ 90
      · rw [if_pos c9] at H
        have c9b0 : decide (a0 ≤ 90) = true := decide_eq_true c9
        clear c9
        obtain rfl := Option.some.inj H
        go_enter Tryd.func55, Tryd.ntmps55
        go_wp2
        go_ret
        exact ⟨by first | rfl | (simp; done) | (simp [*]; done) | (simp only [ne_nil_bool]; rfl), by repeat (first | exact Drawn0.refl _ | apply Drawn0.step)⟩
      · rw [if_neg c9] at H
        have c9b0 : decide (a0 ≤ 90) = false := decide_eq_false c9
        clear c9
        by_cases c10 : a0 ≥ 48
        · rw [if_pos c10] at H
          have c10b0 : decide (48 ≤ a0) = true := decide_eq_true c10
          clear c10
          obtain rfl := Option.some.inj H
          go_enter Tryd.func55, Tryd.ntmps55
          go_wp2
          go_ret
          exact ⟨by first | rfl | (simp; done) | (simp [*]; done) | (simp only [ne_nil_bool]; rfl), by repeat (first | exact Drawn0.refl _ | apply Drawn0.step)⟩
        · rw [if_neg c10] at H
          have c10b0 : decide (48 ≤ a0) = false := decide_eq_false c10
          clear c10
          obtain rfl := Option.some.inj H
          go_enter Tryd.func55, Tryd.ntmps55
          go_wp2
          go_ret
          exact ⟨by first | rfl | (simp; done) | (simp [*]; done) | (simp only [ne_nil_bool]; rfl), by repeat (first | exact Drawn0.refl _ | apply Drawn0.step)⟩
    · rw [if_neg c8] at H
      have c8b0 : decide (65 ≤ a0) = false := decide_eq_false c8
      clear c8
      by_cases c11 : a0 ≥ 48
      · rw [if_pos c11] at H
        have c11b0 : decide (48 ≤ a0) = true := decide_eq_true c11
        clear c11
        obtain rfl := Option.some.inj H
        go_enter Tryd.func55, Tryd.ntmps55
        go_wp2
        go_ret
        exact ⟨by first | rfl | (simp; done) | (simp [*]; done) | (simp only [ne_nil_bool]; rfl), by repeat (first | exact Drawn0.refl _ | apply Drawn0.step)⟩
      · rw [if_neg c11] at H
        have c11b0 : decide (48 ≤ a0) = false := decide_eq_false c11
        clear c11
        obtain rfl := Option.some.inj H
        go_enter Tryd.func55, Tryd.ntmps55
        go_wp2
        go_ret
        exact ⟨by first | rfl | (simp; done) | (simp [*]; done) | (simp only [ne_nil_bool]; rfl), by repeat (first | exact Drawn0.refl _ | apply Drawn0.step)⟩
end Go.Proofs.YtcoaajkhfgakgaaDoor.Pr
end

section
namespace Go.Proofs.YtcoaajkhfgakgaaDoor.Pr
open Go.RowKit Go.Proofs.YtcoaajkhfgakgaaDoorW.PrintWords Go.Proofs.YtcoaajkhfgakgaaDoorW.PrintLast Go.Proofs.YtcoaajkhfgakgaaDoorW.PrintMore
set_option linter.unusedVariables false
set_option linter.unusedSimpArgs false
def letterB (c : Int) : Bool := decide (97 ≤ c ∧ c ≤ 122) || decide (65 ≤ c ∧ c ≤ 90) || decide (48 ≤ c ∧ c ≤ 57)
def signB (l1 : List Int) (c : Int) : Bool := letterB c || decide (0 ≤ Lib.indexByte (strOfNums l1).data.toList c.toNat.toUInt8)
def onlyF (s : ByteArray) (l1 : List Int) : Nat → Nat → Bool
  | 0, _ => true
  | n + 1, i => if i < s.size then signB l1 (bt s i) && onlyF s l1 n (i + 1) else true
def onlyS (s : ByteArray) (l1 : List Int) : Bool := onlyF s l1 (s.size + 1) 0
def place_only.f (a0 : ByteArray) (l1 : List Int) : Option Bool := if a0.size ≤ 1099511627776 then some (onlyS a0 l1) else none
theorem letter_f (c : Int) : place_letter.f c = some (letterB c) := by
  unfold place_letter.f letterB
  repeat' split
  all_goals (congr 1; rw [Bool.eq_iff_iff]; simp only [Bool.or_eq_true, decide_eq_true_eq, true_iff, Bool.false_eq_true, false_iff]; omega)
theorem letter_quiet (c : Int) (w : World) : Calls Tryd.prog 55 #[.int .u8 c] w fun e w' => e = .returned (.bool (letterB c)) ∧ ∃ m, w' = w.drewN m := by
  refine (place_letter.calls c _ w (letter_f c)).mono ?_
  rintro e w' ⟨rfl, ⟨h⟩⟩
  exact ⟨rfl, h⟩
theorem onlyF_step (s : ByteArray) (l1 : List Int) (n i : Nat) (h : i < s.size) : onlyF s l1 (n + 1) i = (signB l1 (bt s i) && onlyF s l1 n (i + 1)) := by rw [onlyF, if_pos h]
theorem onlyF_end (s : ByteArray) (l1 : List Int) (n i : Nat) (h : ¬ i < s.size) : onlyF s l1 n i = true := by
  cases n with
  | zero => rfl
  | succ n => rw [onlyF, if_neg h]
set_option maxHeartbeats 1000000 in
theorem place_only.calls (a0 : ByteArray) (A1 : Option Addr) (c1 : Nat) (l1 : List Int) (r : Bool) (w : World) (hr1 : Kd.C (Kd.int .u8) w A1 l1.length l1) (hc1 : l1.length ≤ c1) (h : place_only.f a0 l1 = some r) :
    Calls Tryd.prog 42 #[.string a0, .slice A1 l1.length c1] w fun e w' => e = .returned (.bool r) ∧ Drawn0 w w' := by
  have hb : a0.size ≤ 1099511627776 := by
    unfold place_only.f at h
    split at h
    · assumption
    · cases h
  obtain rfl : onlyS a0 l1 = r := by
    unfold place_only.f at h
    rw [if_pos hb] at h
    injection h
  clear h
  have hcv : Aside0 (∀ q, (convert 68 9 (.slice A1 l1.length c1)).run Tryd.prog (w.drewN q) = .ok (.string (strOfNums l1)) (w.drewN q)) := ⟨fun q => Kd.C_string (P := Tryd.prog) Tryd.underlying68 Tryd.underlying5 Tryd.underlying9 (w := w.drewN q) (Kd.C_below hr1 (pw_below_drewN (Below.refl _ _) q))⟩
  clear hr1
  go_enter Tryd.func42, Tryd.ntmps42
  go_wp2
  go_loopw [4, 5, 8] (fun s4 _ i wr => ∃ (k q n : Nat), s4 = .bool false ∧ i = .int .i64 k ∧ Aside0 (wr = w.drewN q) ∧ Aside0 (onlyF a0 l1 n k = onlyS a0 l1) ∧ k ≤ a0.size ∧ a0.size < n + k) (fun _ _ i _ => a0.size - (intOf i).toNat)
  case atStart => exact ⟨0, 0, a0.size + 1, rfl, rfl, ⟨rfl⟩, ⟨rfl⟩, by omega, by omega⟩
  case round =>
    obtain ⟨k, q, n, rfl, rfl, hw, hon, hk, hn⟩ := hrel
    by_cases hlt : k < a0.size
    · obtain ⟨n, rfl⟩ : ∃ m, n = m + 1 := ⟨n - 1, by omega⟩
      have hst := onlyF_step a0 l1 n k hlt
      have hb1 : ∀ h : k < a0.size, ((a0[k]'h).toNat : Int) = bt a0 k := fun h => by simp [bt, h]
      have g0 : (0 : Int) ≤ (k : Int) := by omega
      have g1 : (k : Int) < (a0.size : Int) := by omega
      have hcv2 := fun m => hcv.out (q + m)
      have e0 : wr = w.drewN q := hw.out
      have hcv3 : ∀ m, (convert 68 9 (.slice A1 l1.length c1)).run Tryd.prog (wr.drewN m) = .ok (.string (strOfNums l1)) (wr.drewN m) := fun m => by
        rw [e0, World.drewN_drewN]
        exact hcv2 m
      have hle := letter_quiet (bt a0 k)
      have hix := fun W => Tryd.strings_IndexByte (strOfNums l1) (bt a0 k) W
      clear hcv2 e0 hcv
      have HL := Aside0.mk hle
      have HX := Aside0.mk hix
      clear hle hix
      by_cases hl : letterB (bt a0 k) = true
      · have HN : Aside0 (onlyF a0 l1 n (k + 1) = onlyS a0 l1) := ⟨by rw [← hon.out, hst, signB, hl, Bool.true_or, Bool.true_and]⟩
        rw [hl] at HL
        clear hst hl hon HX
        generalize bt a0 k = c at *
        go_wp2_with fail
        go_quiet ((go_at_call 55; exact Calls.quiet_of (HL.out _)))
        go_wp2
        go_roundw
        case rel => exact ⟨k + 1, _, n, rfl, by go_num, ⟨by rw [hw.out]; exact World.drewN_drewN ..⟩, HN, by omega, by omega⟩
        case measure => simp [intOf]; omega
      · have hl : letterB (bt a0 k) = false := by simpa using hl
        have hcv4 := Aside0.mk hcv3
        by_cases hi : 0 ≤ Lib.indexByte (strOfNums l1).data.toList (bt a0 k).toNat.toUInt8
        · have HN : Aside0 (onlyF a0 l1 n (k + 1) = onlyS a0 l1) := ⟨by rw [← hon.out, hst, signB, hl, decide_eq_true hi]; rfl⟩
          rw [hl] at HL
          clear hst hl hon
          generalize Lib.indexByte (strOfNums l1).data.toList (bt a0 k).toNat.toUInt8 = ix at *
          generalize bt a0 k = c at *
          go_wp2_with fail
          go_quiet ((first | (go_at_call 55; exact Calls.quiet_of (HL.out _)) | (go_at_call 56; exact Calls.quiet_of_same (HX.out _))))
          go_wp2
          go_roundw
          case rel => exact ⟨k + 1, _, n, rfl, by go_num, ⟨by rw [hw.out]; exact World.drewN_drewN ..⟩, HN, by omega, by omega⟩
          case measure => simp [intOf]; omega
        · have HN : Aside0 (onlyS a0 l1 = false) := ⟨by rw [← hon.out, hst, signB, hl, decide_eq_false hi]; rfl⟩
          rw [hl] at HL
          clear hst hl hon
          generalize Lib.indexByte (strOfNums l1).data.toList (bt a0 k).toNat.toUInt8 = ix at *
          generalize bt a0 k = c at *
          have hi2 : ix < 0 := by omega
          go_wp2_with fail
          go_quiet ((first | (go_at_call 55; exact Calls.quiet_of (HL.out _)) | (go_at_call 56; exact Calls.quiet_of_same (HX.out _))))
          go_wp2
          go_ret
          exact ⟨congrArg (fun z => Ending.returned (.bool z)) HN.out.symm, ⟨_, by rw [hw.out]; exact World.drewN_drewN ..⟩⟩
    · have HN : Aside0 (onlyS a0 l1 = true) := ⟨by rw [← hon.out, onlyF_end _ _ _ _ hlt]⟩
      clear hon
      go_wp2
      go_ret
      exact ⟨congrArg (fun z => Ending.returned (.bool z)) HN.out.symm, ⟨_, hw.out⟩⟩
end Go.Proofs.YtcoaajkhfgakgaaDoor.Pr
end

section
namespace Go.Proofs.YtcoaajkhfgakgaaDoor.Pr
open Go.RowKit Go.Proofs.YtcoaajkhfgakgaaDoorW.PrintWords Go.Proofs.YtcoaajkhfgakgaaDoorW.PrintLast Go.Proofs.YtcoaajkhfgakgaaDoorW.PrintMore
set_option linter.unusedVariables false
set_option linter.unusedSimpArgs false
def strings_TrimLeft.f (a0 : ByteArray) (a1 : ByteArray) : Option ByteArray := match a1.data.toList with
  | [c] => if c.toNat < 128 then some ⟨(Lib.trimLeftB a0.data.toList c).toArray⟩ else none
  | _ => none
theorem strings_TrimLeft.calls (a0 : ByteArray) (a1 : ByteArray) (r : ByteArray) (w : World) (h : strings_TrimLeft.f a0 a1 = some r) :
    Calls Tryd.prog 44 #[.string a0, .string a1] w fun e w' => e = .returned (.string r) ∧ Drawn0 w w' := by
  unfold strings_TrimLeft.f at h
  split at h
  · rename_i c hc
    split at h
    · rename_i hlt
      injection h with h
      subst h
      obtain rfl : a1 = ⟨#[c]⟩ := by
        obtain ⟨⟨l⟩⟩ := a1
        simp only at hc
        rw [hc]
      refine (Tryd.strings_TrimLeft_one a0 c hlt w).mono ?_
      rintro e w' ⟨rfl, rfl⟩
      exact ⟨rfl, Drawn0.refl _⟩
    · cases h
  · cases h
end Go.Proofs.YtcoaajkhfgakgaaDoor.Pr
end
