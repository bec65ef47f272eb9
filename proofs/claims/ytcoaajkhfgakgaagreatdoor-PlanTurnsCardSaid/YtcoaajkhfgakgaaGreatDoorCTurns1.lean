/- Part 1 of the proof of Turns: what the program's functions compute, and that it is so. Conditions: as each theorem states. (Packed out of our texts: XBase, XSet, XMapI, Shelf, XPSame, XWords, XReader, PK, XGL, PF82, PF113, XIndexByte, PF87, XLower, PF53, XIndexLite, PF106, PF81, PF107, XOnly, XTrimLeft.) -/
import Derived.Test.YtcoaajkhfgakgaaGreatDoorCTurns0
import Derived.Test.YtcoaajkhfgakgaaGreatDoorProg
import Derived.Below
import Derived.Deep.Draws
import Derived.Deep.AppendLies
import Derived.Maps.AppendAt
import Derived.OwnWalk
import Derived.Laws.BytesArg
import Derived.Laws.MakeOwn
import Derived.Laws.OwnMore
import Derived.Deep.OwnRows
import Derived.Tactics
import Derived.Lib.ConvBytes
import Derived.Laws.Slices
import Derived.WalkKit
import Derived.KernelRfl
import Derived.RowKit3
import Derived.Deep.LoopGhost
import Derived.Deep.QuietTactic
import Derived.BigQuiet
import Derived.WideLaws
import Derived.Deep.DeepCutAuto
import Derived.Deep.CutBlock
import Derived.Deep.RegionHeld3
import Derived.Laws.Rows
import Derived.Lib.AppendStr
import Derived.ArgAppend
import Derived.Laws.IdiomCopy
import Derived.OrdersHeld
import Derived.Laws.BitsLemmas
import Derived.RowKit
import Derived.Maps.OwnSet
import Derived.Maps.Views
import Derived.Sort.KeysCollected
import Derived.Shelf.Strings.Builder1
import Derived.Shelf.Strings.Builder2
import Derived.Shelf.Strings.OnBuilder
import Derived.Shelf.Strings.Trim
import Derived.Shelf.Small.Utf8
import Derived.Shelf.Small.Bits
import Derived.Shelf.Small.Strs
import Derived.Shelf.Strings.BuilderF
import Derived.Shelf.Strings.BuilderK
import Derived.Shelf.Strings.Builder2Cap
import Derived.Shelf.Strconv.Atoi
import Derived.Shelf.Strconv.Itoa0
import Derived.Shelf.Strconv.Itoa1
import Derived.Shelf.LaysM
import Derived.Shelf.Strconv.Itoa2
import Derived.Shelf.Strconv.Itoa3
import Derived.Shelf.Strconv.AtoiErrFast
import Derived.Shelf.Strconv.ParseIntEmpty
import Derived.Shelf.Strconv.AtoiFail
import Derived.Shelf.Strconv.Clone
import Derived.Shelf.Strconv.SyntaxError
import Derived.Shelf.LaysC
import Derived.Shelf.Strconv.ToError
import Derived.Shelf.Strconv.Lower
import Derived.Shelf.Strconv.ParseUint10
import Derived.Shelf.Strconv.ParseUint10Empty
import Derived.Shelf.Strconv.ParseUint10Any
import Derived.Shelf.Strconv.ParseInt10
import Derived.Shelf.Strconv.AtoiLong
import Derived.Shelf.Strconv.AtoiInnerAll
import Derived.Shelf.Strconv.RangeError
import Derived.Shelf.Strconv.ToErrorRange
import Derived.Shelf.Strconv.AtoiAll
import Derived.Shelf.Strconv.ErrVarAll
import Derived.Shelf.Strings.Search1
import Derived.Shelf.Strings.Search2
import Derived.Shelf.Strings.Cut
import Derived.Shelf.Strings.Shaped
import Derived.Shelf.Sort.Plain
import Derived.Shelf.Unicode.Decode
import Derived.Shelf.Strings.Runes
import Derived.Shelf.Strings.AsciiSet
import Derived.Shelf.Unicode.DecodeSlow
import Derived.Shelf.Unicode.DecodeAny
import Derived.Shelf.Slices.Equal
import Derived.Ground.Names2Prog
import Derived.Shelf.Slices.Clone
import Derived.Shelf.Slices.In.SortNone
import Derived.Shelf.Slices.Empties2
import Derived.Ground.SlgnProg
import Derived.Shelf.SlicesE.Clone
import Derived.Deep.RegionLaw
import Derived.BigRegion
import Derived.Deep.DrawnRows
import Derived.Lib.Strings
section
namespace Go.Proofs.YtcoaajkhfgakgaaGreatDoor.Pr
open Go.RowKit Go.Proofs.YtcoaajkhfgakgaaGreatDoorW.PrintWords Go.Proofs.YtcoaajkhfgakgaaGreatDoorW.PrintLast Go.Proofs.YtcoaajkhfgakgaaGreatDoorW.PrintMore
theorem zA {w : World} {g : Nat} {o : Obj} (h : w.heap[g]? = some o) (o' : Obj) : (w.alloc o').heap[g]? = some o := blk_alloc h o'
theorem zD {w : World} {g : Nat} {o : Obj} (h : w.heap[g]? = some o) : w.drew.heap[g]? = some o := h
theorem zN {w : World} {g : Nat} {o : Obj} (h : w.heap[g]? = some o) (n : Nat) : (w.drewN n).heap[g]? = some o := h
end Go.Proofs.YtcoaajkhfgakgaaGreatDoor.Pr
end
section
namespace Go.Proofs.YtcoaajkhfgakgaaGreatDoor.Pr
open Go.RowKit Go.Proofs.YtcoaajkhfgakgaaGreatDoorW.PrintWords Go.Proofs.YtcoaajkhfgakgaaGreatDoorW.PrintLast Go.Proofs.YtcoaajkhfgakgaaGreatDoorW.PrintMore
set_option linter.unusedVariables false
set_option linter.unusedSimpArgs false
def RowB (W : World) (B : Nat) (xs : List Int) : Prop :=
  ∀ i, i < xs.length → W.cell? ⟨B, i, none⟩ = some (.int .u8 (xs.getD i 0)) ∧ W.frozen? ⟨B, i, none⟩ = false
theorem RowB.set {W : World} {B : Nat} {xs : List Int} (h : RowB W B xs) (i : Nat) (v : Int) : RowB (W.setCell ⟨B, i, none⟩ (.int .u8 v)) B (xs.set i v) := by
  intro j hj
  rw [List.length_set] at hj
  obtain ⟨h1, h2⟩ := h j hj
  refine ⟨?_, by rw [World.frozen?_setCell]; exact h2⟩
  by_cases e : i = j
  · subst e
    rw [World.cell?_setCell_same _ _ _ h1]
    simp [List.getD_eq_getElem?_getD, hj]
  · rw [World.cell?_setCell_other _ _ _ _ (by intro h; injection h with _ h _; exact e h), h1]
    simp [List.getD_eq_getElem?_getD, List.getElem?_set, e]
theorem RowB.bytes (w : World) (s : ByteArray) : RowB (Lib.bytesWorld w 5 s) w.heap.size (bytesOf s) := by
  intro i hi
  rw [bytesOf_length] at hi
  refine ⟨?_, ?_⟩
  · rw [Lib.bytesWorld_cell w _ s i hi]
    have h' : i < s.data.toList.length := by rw [data_length]; exact hi
    simp [bytesOf, List.getD_eq_getElem?_getD, List.getElem?_eq_getElem h']
  · have hsz : i < (Lib.bytesCells w 5 s).size := by
      simp only [Lib.bytesCells, Array.size_append, Array.size_map]
      have : s.data.size = s.size := rfl
      omega
    simp only [World.frozen?, Lib.bytesWorld_at_new]
    simp; omega
theorem RowB.reads {W : World} {B : Nat} {xs : List Int} (h : RowB W B xs) (hm : xs.length ≤ 9223372036854775807) : ReadsInt W .u8 (some ⟨B, 0, none⟩) xs.length xs := by
  refine ⟨rfl, hm, fun _ => ⟨_, rfl, fun j hj => ?_⟩⟩
  rw [add_plain]
  exact (h j hj).1
theorem addr_add_zero (a : Addr) : a.add 0 = a := by
  unfold Addr.add
  split <;> first | rfl | simp_all
theorem add_none (b o j : Nat) : (⟨b, o, none⟩ : Addr).add j = ⟨b, o + j, none⟩ := by
  unfold Addr.add
  split <;> simp_all
theorem spot_of_cell {w : World} {a : Addr} {v : Value} (h : w.cell? a = some v) : a.spot = none := by
  unfold World.cell? at h
  split at h
  · rcases hs : a.spot with _ | x
    · rfl
    · simp [hs] at h
  · simp at h
theorem frz_new {w : World} {a : Addr} {o : Obj} (h : a.block < w.heap.size) (z : w.frozen? a = false) : (w.alloc o).drew.frozen? a = false := by
  have e : (w.alloc o).heap[a.block]? = w.heap[a.block]? := Below.heap_alloc w o _ h
  show (w.alloc o).frozen? a = false
  rw [World.frozen?_of_block (w := w) e]
  exact z
theorem cell_new_ {w : World} {a : Addr} {o : Obj} {v : Value} (h : a.block < w.heap.size) (z : w.cell? a = some v) : (w.alloc o).drew.cell? a = some v := by
  have e : (w.alloc o).heap[a.block]? = w.heap[a.block]? := Below.heap_alloc w o _ h
  show (w.alloc o).cell? a = some v
  rw [World.cell?_of_block (w := w) e]
  exact z
theorem C_cells {w : World} {A : Option Addr} {l : List ByteArray} (h : Kd.C Kd.string w A l.length l) : ∀ j, j < l.length → ∃ b o, A = some ⟨b, o, none⟩ ∧ b < w.heap.size ∧ w.cell? ⟨b, o + j, none⟩ = some (.string (l.getD j ByteArray.empty)) := fun j hj => by
  obtain ⟨ad, he, hc⟩ := (Kd.reads_of_C (d := ByteArray.empty) h).2.2 (by omega)
  have hspot : ad.spot = none := by
    have h0 := hc 0 (by omega)
    rw [addr_add_zero] at h0
    exact spot_of_cell h0
  obtain ⟨b, off, sp⟩ := ad
  simp only at hspot
  subst hspot
  have := hc j hj
  rw [add_none] at this
  exact ⟨b, off, he, World.block_lt_of_cell? w _ this, this⟩
theorem set_map_take {α : Type} (f : α → α) (xs : List α) (i : Nat) (hi : i < xs.length) :
    ((xs.take i).map f ++ xs.drop i).set i (f xs[i]) = (xs.take (i + 1)).map f ++ xs.drop (i + 1) := by
  have hl : ((xs.take i).map f).length = i := by simp; omega
  rw [List.set_append_right _ _ (by omega), hl, Nat.sub_self, List.drop_eq_getElem_cons hi, List.set_cons_zero, List.take_succ_eq_append_getElem hi]
  simp only [List.map_append, List.map_cons, List.map_nil, List.append_assoc, List.singleton_append]
theorem getD_map_take {f : Int → Int} (xs : List Int) (i : Nat) (hi : i < xs.length) : ((xs.take i).map f ++ xs.drop i).getD i 0 = xs[i] := by
  have hl : ((xs.take i).map f).length = i := by simp; omega
  rw [List.getD_eq_getElem?_getD, List.getElem?_append_right (by omega), hl, Nat.sub_self, List.drop_eq_getElem_cons hi]
  rfl
end Go.Proofs.YtcoaajkhfgakgaaGreatDoor.Pr
end

section
namespace Go.Proofs.YtcoaajkhfgakgaaGreatDoor.Pr
open Go.RowKit Go.Proofs.YtcoaajkhfgakgaaGreatDoorW.PrintWords Go.Proofs.YtcoaajkhfgakgaaGreatDoorW.PrintLast Go.Proofs.YtcoaajkhfgakgaaGreatDoorW.PrintMore
open Go.Maps (Keyed string_keyed)
set_option linter.unusedVariables false
set_option linter.unusedSimpArgs false
theorem lawStr : Keyed Tryz.prog 9 := string_keyed Tryz.underlying9
theorem zeroBool (w : World) : (zeroValue 4).run Tryz.prog w = .ok (.bool false) w := by kernel_rfl
def inB (x : ByteArray) (l : List ByteArray) : Bool := l.any fun y => decide (y = x)
theorem inB_iff (x : ByteArray) (l : List ByteArray) : inB x l = true ↔ x ∈ l := by simp [inB]
theorem bool_inv {H : Type} {P : Program} {e : TypeId} (he : P.underlying e = some .bool) {v : Value} {z : DataW H × List MemPlace} (h : plainElem P e v = some z) : ∃ a, v = .bool a ∧ z = (.lit (.bool a), []) := by
  unfold plainElem at h
  rw [he] at h
  cases v <;> simp at h
  exact ⟨_, rfl, h.symm⟩
def setD : List ByteArray → DataW Nat
  | [] => .map []
  | x :: r => (setD r).put (.string x.data.toList) (.lit (.bool true))
theorem setD_isMap : ∀ l, Maps.IsMap (setD l)
  | [] => Maps.isMap_empty
  | x :: r => (setD_isMap r).put _ _
theorem setD_at (x : ByteArray) (hk : WideAt.IsKeyLit (.string x.data.toList)) : ∀ l, (setD l).atKey (.string x.data.toList) (.lit (.bool false)) = .lit (.bool (inB x l))
  | [] => by simp [setD, DataW.atKey, inB]
  | y :: r => by
    unfold setD
    by_cases h : x = y
    · subst h
      rw [Maps.atKey_put_same (setD_isMap r) hk]
      simp [inB]
    · rw [Maps.atKey_put_other (fun e => h (by injection e with e; obtain ⟨⟨x⟩⟩ := x; obtain ⟨⟨y⟩⟩ := y; simp at e; rw [e])), setD_at x hk r]
      simp [inB, Ne.symm h]
def IsSet (W : World) (b : Nat) (l : List ByteArray) : Prop := W.ownsMap Tryz.prog 9 (plainElem Tryz.prog 4) b l.length (setD l)
section
variable {W W' : World} {b : Nat} {l : List ByteArray}
theorem IsSet.made (W : World) : IsSet (W.alloc (.map #[] 0)) W.heap.size [] := World.ownsMap_made W _ _ _
theorem IsSet.lt (h : IsSet W b l) : b < W.heap.size := World.ownsMap.lt h
theorem IsSet.block (h : IsSet W b l) (hb : W'.heap[b]? = W.heap[b]?) : IsSet W' b l := by
  obtain ⟨es, clock, h1, h2⟩ := h
  exact ⟨es, clock, hb.trans h1, h2⟩
theorem key_of (x : ByteArray) (hx : x.size ≤ 274877906944) : keyOf Tryz.prog 9 (.string x) = some (.string x.data.toList) := by
  have h63 : x.size ≤ maxLen := by unfold maxLen; omega
  simp [keyOf, Tryz.underlying9, mapKey, h63]
theorem IsSet.look (h : IsSet W b l) (x : ByteArray) (hx : x.size ≤ 274877906944) : (Instr.lookup 92 (.map (some b)) (.string x) false).run Tryz.prog W = .ok (.bool (inB x l)) W := by
  obtain ⟨v, ps, hrun, hv⟩ := World.ownsMap.lookup h lawStr Tryz.underlying92 (zeroBool W) (plainElem_bool Tryz.underlying4 false) (key_of x hx)
  rw [setD_at x (by simp [WideAt.IsKeyLit])] at hv
  rw [hrun]
  obtain ⟨a, rfl, hz⟩ := bool_inv Tryz.underlying4 hv
  simp only [Prod.mk.injEq, DataW.lit.injEq, Lit.bool.injEq] at hz
  rw [hz.1]
theorem IsSet.put (h : IsSet W b l) (x : ByteArray) (hx : x.size ≤ 274877906944) (hn : l.length < 274877906944) :
    ∃ w', (Instr.mapUpdate 92 (.map (some b)) (.string x) (.bool true)).run Tryz.prog W = .ok () w' ∧ IsSet w' b (x :: l) ∧ W.grownBy w' (some b) :=
  World.ownsMap.update h lawStr Tryz.underlying92 (by unfold maxLen; omega) (key_of x hx) (plainElem_bool Tryz.underlying4 true)
end
end Go.Proofs.YtcoaajkhfgakgaaGreatDoor.Pr
end

section
namespace Go.Proofs.YtcoaajkhfgakgaaGreatDoor.Pr
open Go.RowKit Go.Proofs.YtcoaajkhfgakgaaGreatDoorW.PrintWords Go.Proofs.YtcoaajkhfgakgaaGreatDoorW.PrintLast Go.Proofs.YtcoaajkhfgakgaaGreatDoorW.PrintMore
open Go.Maps (Keyed string_keyed)
set_option linter.unusedVariables false
set_option linter.unusedSimpArgs false
def lkI (x : ByteArray) : List (ByteArray × Int) → Int
  | [] => 0
  | p :: r => if p.1 = x then p.2 else lkI x r
def mapD : List (ByteArray × Int) → DataW Nat
  | [] => .map []
  | p :: r => (mapD r).put (.string p.1.data.toList) (.lit (.int .i64 p.2))
theorem bytes_inj {x y : ByteArray} (e : x.data.toList = y.data.toList) : x = y := by
  obtain ⟨⟨x⟩⟩ := x
  obtain ⟨⟨y⟩⟩ := y
  simp only at e
  rw [e]
theorem mapD_isMap : ∀ l, Maps.IsMap (mapD l)
  | [] => Maps.isMap_empty
  | p :: r => (mapD_isMap r).put _ _
theorem mapD_tidy : ∀ l, Maps.Tidy (mapD l)
  | [] => Maps.tidy_empty
  | p :: r => (mapD_tidy r).put (by simp [WideAt.IsKeyLit]) _
theorem mapD_size : ∀ l, Maps.size (mapD l) ≤ l.length
  | [] => Nat.le_refl _
  | p :: r => by
    unfold mapD
    rw [Maps.size_put (mapD_tidy r)]
    have := mapD_size r
    split
    · simp; omega
    · simp; omega
theorem mapD_at (x : ByteArray) (hk : WideAt.IsKeyLit (.string x.data.toList)) : ∀ l, (mapD l).atKey (.string x.data.toList) (.lit (.int .i64 0)) = .lit (.int .i64 (lkI x l))
  | [] => by simp [mapD, DataW.atKey, lkI]
  | p :: r => by
    unfold mapD lkI
    by_cases h : p.1 = x
    · subst h
      rw [Maps.atKey_put_same (mapD_isMap r) hk, if_pos rfl]
    · rw [Maps.atKey_put_other (fun e => h (by injection e with e; exact (bytes_inj e).symm)), mapD_at x hk r, if_neg h]
theorem mapD_has (x : List UInt8) : ∀ l, Maps.has (mapD l) (.string x) = l.any (fun p => decide (p.1.data.toList = x))
  | [] => rfl
  | p :: r => by
    unfold mapD
    by_cases h : p.1.data.toList = x
    · subst h
      rw [Maps.has_put_same (mapD_isMap r) (by simp [WideAt.IsKeyLit])]
      simp
    · rw [Maps.has_put_other (fun e => h (by injection e with e; exact e.symm)), mapD_has x r]
      simp [h]
def keysI : List (ByteArray × Int) → List (List UInt8)
  | [] => []
  | p :: r => if r.any (fun q => decide (q.1.data.toList = p.1.data.toList)) = true then keysI r else p.1.data.toList :: keysI r
theorem keysI_mem (x : List UInt8) : ∀ l, x ∈ keysI l ↔ l.any (fun p => decide (p.1.data.toList = x)) = true
  | [] => by simp [keysI]
  | p :: r => by
    unfold keysI
    have ih := keysI_mem x r
    split
    · rename_i h
      rw [ih]
      constructor
      · intro h'; simp only [List.any_cons, Bool.or_eq_true]; exact .inr h'
      · intro h'
        simp only [List.any_cons, Bool.or_eq_true, decide_eq_true_eq] at h'
        rcases h' with h' | h'
        · rw [h'] at h; exact h
        · exact h'
    · rename_i h
      rw [List.mem_cons, ih]
      simp only [List.any_cons, Bool.or_eq_true, decide_eq_true_eq]
      constructor
      · rintro (h' | h')
        · exact .inl h'.symm
        · exact .inr h'
      · rintro (h' | h')
        · exact .inl h'.symm
        · exact .inr h'
theorem keysI_nodup : ∀ l, (keysI l).Nodup
  | [] => List.nodup_nil
  | p :: r => by
    unfold keysI
    split
    · exact keysI_nodup r
    · rename_i h
      refine List.nodup_cons.2 ⟨fun hm => h ((keysI_mem _ r).1 hm), keysI_nodup r⟩
def sortedI (l : List (ByteArray × Int)) : List (List UInt8) := (keysI l).mergeSort leB
theorem keysI_length : ∀ l, (keysI l).length ≤ l.length
  | [] => Nat.le_refl _
  | p :: r => by
    unfold keysI
    have := keysI_length r
    split
    · simp; omega
    · simp; omega
theorem sortedI_length (l : List (ByteArray × Int)) : (sortedI l).length ≤ l.length := by
  unfold sortedI
  rw [List.length_mergeSort]
  exact keysI_length l
def IsMapI (W : World) (b : Nat) (l : List (ByteArray × Int)) : Prop := W.ownsMap Tryz.prog 9 (plainElem Tryz.prog 3) b l.length (mapD l)
theorem zeroInt (w : World) : (zeroValue 3).run Tryz.prog w = .ok (.int .i64 0) w := by kernel_rfl
theorem int_inv {H : Type} {P : Program} {e : TypeId} (he : P.underlying e = some (.int .i64)) {v : Value} {z : DataW H × List MemPlace} (h : plainElem P e v = some z) : ∃ a, v = .int .i64 a ∧ z = (.lit (.int .i64 a), []) := by
  unfold plainElem at h
  rw [he] at h
  cases v <;> simp at h
  obtain ⟨⟨rfl, _⟩, h⟩ := h
  exact ⟨_, rfl, h.symm⟩
section
variable {W W' : World} {b : Nat} {l : List (ByteArray × Int)}
theorem IsMapI.made (W : World) : IsMapI (W.alloc (.map #[] 0)) W.heap.size [] := World.ownsMap_made W _ _ _
theorem IsMapI.lt (h : IsMapI W b l) : b < W.heap.size := World.ownsMap.lt h
theorem IsMapI.block (h : IsMapI W b l) (hb : W'.heap[b]? = W.heap[b]?) : IsMapI W' b l := by
  obtain ⟨es, clock, h1, h2⟩ := h
  exact ⟨es, clock, hb.trans h1, h2⟩
theorem IsMapI.look (h : IsMapI W b l) (x : ByteArray) (hx : x.size ≤ 274877906944) : (Instr.lookup 124 (.map (some b)) (.string x) false).run Tryz.prog W = .ok (.int .i64 (lkI x l)) W := by
  obtain ⟨v, ps, hrun, hv⟩ := World.ownsMap.lookup h lawStr Tryz.underlying124 (zeroInt W) (plainElem_int Tryz.underlying3 (by decide)) (key_of x hx)
  rw [mapD_at x (by simp [WideAt.IsKeyLit])] at hv
  rw [hrun]
  obtain ⟨a, rfl, hz⟩ := int_inv Tryz.underlying3 hv
  simp only [Prod.mk.injEq, DataW.lit.injEq, Lit.int.injEq, true_and] at hz
  rw [hz.1]
theorem IsMapI.put (h : IsMapI W b l) (x : ByteArray) (v : Int) (hx : x.size ≤ 274877906944) (hv : (Lit.int .i64 v).wf = true) (hn : l.length < 1099511627776) :
    ∃ w', (Instr.mapUpdate 124 (.map (some b)) (.string x) (.int .i64 v)).run Tryz.prog W = .ok () w' ∧ IsMapI w' b ((x, v) :: l) ∧ W.grownBy w' (some b) :=
  World.ownsMap.update h lawStr Tryz.underlying124 (by unfold maxLen; omega) (key_of x hx) (plainElem_int Tryz.underlying3 hv)
theorem IsMapI.sorted (h : IsMapI W b l) {ss : List (List UInt8)} (hs : ss.Perm (strKeys (mapD l))) : ss.mergeSort leB = sortedI l := by
  obtain ⟨es, hD, hpw, _⟩ := World.ownsMap.entries h lawStr
  obtain ⟨es', hD', hko⟩ := World.ownsMap.keysOf h
  obtain rfl : es = es' := by rw [hD] at hD'; simpa using hD'
  have hp : (keysI l).Perm (strKeys (mapD l)) := by
    rw [hD]
    refine perm_strKeys hpw (fun p hp => ?_) (keysI_nodup l) (fun x => ?_)
    · obtain ⟨v, hv⟩ := hko p hp
      obtain ⟨x, _, hx, _⟩ := Maps.keyOf_str Tryz.underlying9 hv
      exact ⟨x, hx⟩
    · rw [← hD, mapD_has, keysI_mem]
  exact mergeSort_of_perm (hs.trans hp.symm)
end
end Go.Proofs.YtcoaajkhfgakgaaGreatDoor.Pr
end

section
namespace Go.Proofs
open Go.Shelf
def Tryz.lays161_ren : Go.Shelf.Ren := ⟨fun | 161 => 85 | 231 => 109 | 227 => 110 | 233 => 111 | 235 => 112 | 228 => 125 | 197 => 126 | 151 => 127 | 260 => 150 | 152 => 151 | 137 => 108 | 119 => 169 | 224 => 147 | 225 => 146 | 217 => 124 | 266 => 149 | n => n, fun | 9 => 9 | 4 => 4 | 3 => 3 | 5 => 5 | 117 => 160 | 116 => 159 | 0 => 0 | 124 => 163 | 105 => 172 | 21 => 21 | 119 => 212 | 46 => 170 | 139 => 215 | 138 => 214 | n => n, fun | 3 => 2 | 4 => 3 | n => n⟩
theorem Tryz.lays161 : Go.Proofs.Lays.n161 Tryz.prog Tryz.lays161_ren := {
  mixed := by kernel_rfl
  f119 := Tryz.func169.trans (congrArg some (by kernel_rfl))
  f137 := Tryz.func108.trans (congrArg some (by kernel_rfl))
  f151 := Tryz.func127.trans (congrArg some (by kernel_rfl))
  f152 := Tryz.func151.trans (congrArg some (by kernel_rfl))
  f161 := Tryz.func85.trans (congrArg some (by kernel_rfl))
  f197 := Tryz.func126.trans (congrArg some (by kernel_rfl))
  f217 := Tryz.func124.trans (congrArg some (by kernel_rfl))
  f224 := Tryz.func147.trans (congrArg some (by kernel_rfl))
  f225 := Tryz.func146.trans (congrArg some (by kernel_rfl))
  f227 := Tryz.func110.trans (congrArg some (by kernel_rfl))
  f228 := Tryz.func125.trans (congrArg some (by kernel_rfl))
  f231 := Tryz.func109.trans (congrArg some (by kernel_rfl))
  f233 := Tryz.func111.trans (congrArg some (by kernel_rfl))
  f235 := Tryz.func112.trans (congrArg some (by kernel_rfl))
  f260 := Tryz.func150.trans (congrArg some (by kernel_rfl))
  f266 := Tryz.func149.trans (congrArg some (by kernel_rfl))
  t0 := Tryz.underlying0
  a0 := Tryz.isAgg0
  z0 := Tryz.sizeOf0
  v0 := Tryz.zeroValue0
  t3 := Tryz.underlying3
  a3 := Tryz.isAgg3
  z3 := Tryz.sizeOf3
  v3 := Tryz.zeroValue3
  t4 := Tryz.underlying4
  a4 := Tryz.isAgg4
  z4 := Tryz.sizeOf4
  v4 := Tryz.zeroValue4
  t5 := Tryz.underlying5
  a5 := Tryz.isAgg5
  z5 := Tryz.sizeOf5
  v5 := Tryz.zeroValue5
  t9 := Tryz.underlying9
  a9 := Tryz.isAgg9
  z9 := Tryz.sizeOf9
  v9 := Tryz.zeroValue9
  t21 := Tryz.underlying21
  a21 := Tryz.isAgg21
  z21 := Tryz.sizeOf21
  v21 := Tryz.zeroValue21
  t46 := Tryz.underlying170
  a46 := Tryz.isAgg170
  z46 := Tryz.sizeOf170
  v46 := Tryz.zeroValue170
  t105 := Tryz.underlying172
  a105 := Tryz.isAgg172
  z105 := Tryz.sizeOf172
  v105 := Tryz.zeroValue172
  t116 := Tryz.underlying159
  a116 := Tryz.isAgg159
  z116 := Tryz.sizeOf159
  t117 := Tryz.underlying160
  a117 := Tryz.isAgg160
  z117 := Tryz.sizeOf160
  v117 := Tryz.zeroValue160
  t119 := Tryz.underlying212
  a119 := Tryz.isAgg212
  z119 := Tryz.sizeOf212
  t124 := Tryz.underlying163
  a124 := Tryz.isAgg163
  z124 := Tryz.sizeOf163
  v124 := Tryz.zeroValue163
  t138 := Tryz.underlying214
  a138 := Tryz.isAgg214
  z138 := Tryz.sizeOf214
  v138 := Tryz.zeroValue214
  t139 := Tryz.underlying215
  a139 := Tryz.isAgg215
  z139 := Tryz.sizeOf215
  v139 := Tryz.zeroValue215
  g3 := by kernel_rfl
  g4 := by kernel_rfl }
open Go.RowKit in
theorem Tryz.strings_TrimLeft_one (s : ByteArray) (c : UInt8) (hc : c.toNat < 128) (w : World) :
    Calls Tryz.prog 85 #[.string s, .string ⟨#[c]⟩] w fun e w' => e = .returned (.string ⟨(Lib.trimLeftB s.data.toList c).toArray⟩) ∧ w' = w := Any.strings_TrimLeft_one Tryz.lays161 s c hc w
def Tryz.lays137_ren : Go.Shelf.Ren := ⟨fun | 137 => 108 | 217 => 124 | 266 => 149 | n => n, fun | 9 => 9 | 5 => 5 | 3 => 3 | n => n, fun | n => n⟩
theorem Tryz.lays137 : Go.Proofs.Lays.n137 Tryz.prog Tryz.lays137_ren := {
  mixed := by kernel_rfl
  f137 := Tryz.func108.trans (congrArg some (by kernel_rfl))
  f217 := Tryz.func124.trans (congrArg some (by kernel_rfl))
  f266 := Tryz.func149.trans (congrArg some (by kernel_rfl))
  t3 := Tryz.underlying3
  a3 := Tryz.isAgg3
  z3 := Tryz.sizeOf3
  v3 := Tryz.zeroValue3
  t5 := Tryz.underlying5
  a5 := Tryz.isAgg5
  z5 := Tryz.sizeOf5
  v5 := Tryz.zeroValue5
  t9 := Tryz.underlying9
  a9 := Tryz.isAgg9
  z9 := Tryz.sizeOf9
  v9 := Tryz.zeroValue9 }
open Go.RowKit in
theorem Tryz.strings_IndexByte (s : ByteArray) (c : Int) (w : World) :
    Calls Tryz.prog 108 #[.string s, .int .u8 c] w fun e w' => e = .returned (.int .i64 (Lib.indexByte s.data.toList c.toNat.toUInt8)) ∧ w' = w := Any.strings_IndexByte Tryz.lays137 s c w
def Tryz.lays172_ren : Go.Shelf.Ren := ⟨fun | 172 => 121 | 244 => 144 | 245 => 145 | 247 => 163 | 279 => 164 | 280 => 165 | 281 => 166 | 282 => 167 | 287 => 173 | 316 => 174 | 171 => 58 | 205 => 175 | 321 => 176 | 322 => 177 | 243 => 95 | 246 => 117 | 283 => 129 | 284 => 130 | 285 => 131 | 286 => 132 | 129 => 143 | 317 => 153 | 318 => 154 | 319 => 155 | 320 => 156 | 337 => 170 | 338 => 171 | n => n, fun | 9 => 9 | 3 => 3 | 75 => 115 | 76 => 116 | 4 => 4 | 5 => 5 | 167 => 204 | 37 => 111 | 0 => 0 | 85 => 205 | 2 => 2 | 168 => 207 | 53 => 176 | 175 => 220 | 46 => 170 | 210 => 223 | 127 => 149 | 145 => 230 | 143 => 228 | 21 => 21 | 171 => 175 | 173 => 179 | 212 => 196 | 51 => 190 | 20 => 20 | 213 => 197 | 232 => 225 | 233 => 226 | 80 => 56 | n => n, fun | 15 => 4 | 16 => 5 | 17 => 1 | 18 => 6 | 19 => 7 | n => n⟩
def Tryz.laysC172_ren : Go.Shelf.Ren := ⟨fun | 172 => 121 | 244 => 144 | 245 => 145 | 247 => 163 | 279 => 164 | 280 => 165 | 281 => 166 | 282 => 167 | 287 => 173 | 316 => 174 | 171 => 58 | 205 => 175 | 321 => 176 | 322 => 177 | 243 => 95 | 246 => 117 | 283 => 129 | 284 => 130 | 285 => 131 | 286 => 132 | 129 => 143 | 317 => 153 | 318 => 154 | 319 => 155 | 320 => 156 | 337 => 170 | 338 => 171 | n => n, fun | 9 => 9 | 3 => 3 | 75 => 115 | 76 => 116 | 4 => 4 | 5 => 5 | 167 => 204 | 37 => 111 | 0 => 0 | 85 => 205 | 2 => 2 | 168 => 207 | 53 => 176 | 175 => 220 | 46 => 170 | 210 => 223 | 127 => 149 | 145 => 230 | 143 => 228 | 21 => 21 | 171 => 175 | 173 => 179 | 212 => 196 | 51 => 190 | 20 => 20 | 213 => 197 | 232 => 225 | 233 => 226 | 80 => 56 | n => n, fun | 15 => 4 | 16 => 5 | 17 => 1 | 18 => 6 | 19 => 7 | n => n⟩
theorem Tryz.laysC172 : Go.Proofs.LaysC.n172 Tryz.prog Tryz.laysC172_ren := {
  mixed := by kernel_rfl
  f129 := Tryz.func143.trans (congrArg some (by kernel_rfl))
  f171 := Tryz.func58.trans (congrArg some (by kernel_rfl))
  f172 := Tryz.func121.trans (congrArg some (by kernel_rfl))
  f205 := Tryz.func175.trans (congrArg some (by kernel_rfl))
  f243 := Tryz.func95.trans (congrArg some (by kernel_rfl))
  f244 := Tryz.func144.trans (congrArg some (by kernel_rfl))
  f245 := Tryz.func145.trans (congrArg some (by kernel_rfl))
  f246 := Tryz.func117.trans (congrArg some (by kernel_rfl))
  f247 := Tryz.func163.trans (congrArg some (by kernel_rfl))
  f279 := Tryz.func164.trans (congrArg some (by kernel_rfl))
  f280 := Tryz.func165.trans (congrArg some (by kernel_rfl))
  f281 := Tryz.func166.trans (congrArg some (by kernel_rfl))
  f282 := Tryz.func167.trans (congrArg some (by kernel_rfl))
  f283 := Tryz.func129.trans (congrArg some (by kernel_rfl))
  f284 := Tryz.func130.trans (congrArg some (by kernel_rfl))
  f285 := Tryz.func131.trans (congrArg some (by kernel_rfl))
  f286 := Tryz.func132.trans (congrArg some (by kernel_rfl))
  f287 := Tryz.func173.trans (congrArg some (by kernel_rfl))
  f316 := Tryz.func174.trans (congrArg some (by kernel_rfl))
  f317 := Tryz.func153.trans (congrArg some (by kernel_rfl))
  f318 := Tryz.func154.trans (congrArg some (by kernel_rfl))
  f319 := Tryz.func155.trans (congrArg some (by kernel_rfl))
  f320 := Tryz.func156.trans (congrArg some (by kernel_rfl))
  f321 := Tryz.func176.trans (congrArg some (by kernel_rfl))
  f322 := Tryz.func177.trans (congrArg some (by kernel_rfl))
  f337 := Tryz.func170.trans (congrArg some (by kernel_rfl))
  f338 := Tryz.func171.trans (congrArg some (by kernel_rfl))
  t0 := Tryz.underlying0
  a0 := Tryz.isAgg0
  z0 := Tryz.sizeOf0
  v0 := Tryz.zeroValue0
  t2 := Tryz.underlying2
  a2 := Tryz.isAgg2
  z2 := Tryz.sizeOf2
  v2 := Tryz.zeroValue2
  t3 := Tryz.underlying3
  a3 := Tryz.isAgg3
  z3 := Tryz.sizeOf3
  v3 := Tryz.zeroValue3
  t4 := Tryz.underlying4
  a4 := Tryz.isAgg4
  z4 := Tryz.sizeOf4
  v4 := Tryz.zeroValue4
  t5 := Tryz.underlying5
  a5 := Tryz.isAgg5
  z5 := Tryz.sizeOf5
  v5 := Tryz.zeroValue5
  t9 := Tryz.underlying9
  a9 := Tryz.isAgg9
  z9 := Tryz.sizeOf9
  v9 := Tryz.zeroValue9
  t20 := Tryz.underlying20
  a20 := Tryz.isAgg20
  z20 := Tryz.sizeOf20
  v20 := Tryz.zeroValue20
  t21 := Tryz.underlying21
  a21 := Tryz.isAgg21
  z21 := Tryz.sizeOf21
  v21 := Tryz.zeroValue21
  t37 := Tryz.underlying111
  a37 := Tryz.isAgg111
  z37 := Tryz.sizeOf111
  v37 := Tryz.zeroValue111
  t46 := Tryz.underlying170
  a46 := Tryz.isAgg170
  z46 := Tryz.sizeOf170
  v46 := Tryz.zeroValue170
  t51 := Tryz.underlying190
  a51 := Tryz.isAgg190
  z51 := Tryz.sizeOf190
  v51 := Tryz.zeroValue190
  t53 := Tryz.underlying176
  a53 := Tryz.isAgg176
  z53 := Tryz.sizeOf176
  v53 := Tryz.zeroValue176
  t75 := Tryz.underlying115
  a75 := Tryz.isAgg115
  z75 := Tryz.sizeOf115
  v75 := Tryz.zeroValue115
  t76 := Tryz.underlying116
  a76 := Tryz.isAgg116
  z76 := Tryz.sizeOf116
  v76 := Tryz.zeroValue116
  t85 := Tryz.underlying205
  a85 := Tryz.isAgg205
  z85 := Tryz.sizeOf205
  v85 := Tryz.zeroValue205
  t127 := Tryz.underlying149
  a127 := Tryz.isAgg149
  z127 := Tryz.sizeOf149
  v127 := Tryz.zeroValue149
  t143 := Tryz.underlying228
  a143 := Tryz.isAgg228
  z143 := Tryz.sizeOf228
  v143 := Tryz.zeroValue228
  t145 := Tryz.underlying230
  a145 := Tryz.isAgg230
  z145 := Tryz.sizeOf230
  v145 := Tryz.zeroValue230
  t167 := Tryz.underlying204
  a167 := Tryz.isAgg204
  z167 := Tryz.sizeOf204
  v167 := Tryz.zeroValue204
  t168 := Tryz.underlying207
  a168 := Tryz.isAgg207
  z168 := Tryz.sizeOf207
  v168 := Tryz.zeroValue207
  t171 := Tryz.underlying175
  a171 := Tryz.isAgg175
  z171 := Tryz.sizeOf175
  v171 := Tryz.zeroValue175
  t173 := Tryz.underlying179
  a173 := Tryz.isAgg179
  z173 := Tryz.sizeOf179
  v173 := Tryz.zeroValue179
  t175 := Tryz.underlying220
  a175 := Tryz.isAgg220
  z175 := Tryz.sizeOf220
  v175 := Tryz.zeroValue220
  t210 := Tryz.underlying223
  a210 := Tryz.isAgg223
  z210 := Tryz.sizeOf223
  v210 := Tryz.zeroValue223
  t212 := Tryz.underlying196
  a212 := Tryz.isAgg196
  z212 := Tryz.sizeOf196
  v212 := Tryz.zeroValue196
  t213 := Tryz.underlying197
  a213 := Tryz.isAgg197
  z213 := Tryz.sizeOf197
  t232 := Tryz.underlying225
  a232 := Tryz.isAgg225
  z232 := Tryz.sizeOf225
  v232 := Tryz.zeroValue225
  t233 := Tryz.underlying226
  a233 := Tryz.isAgg226
  z233 := Tryz.sizeOf226
  v233 := Tryz.zeroValue226
  g15 := by kernel_rfl
  g16 := by kernel_rfl
  g17 := by kernel_rfl
  g18 := by kernel_rfl
  g19 := by kernel_rfl
  t80 := Tryz.underlying56
  a80 := Tryz.isAgg56
  z80 := Tryz.sizeOf56
  v80 := Tryz.zeroValue56
  i0 := by kernel_rfl
  i2 := by kernel_rfl
  i3 := by kernel_rfl
  i4 := by kernel_rfl
  i5 := by kernel_rfl
  i9 := by kernel_rfl
  i20 := by kernel_rfl
  i21 := by kernel_rfl
  i37 := by kernel_rfl
  i46 := by kernel_rfl
  i51 := by kernel_rfl
  i53 := by kernel_rfl
  i75 := by kernel_rfl
  i76 := by kernel_rfl
  i80 := by kernel_rfl
  i85 := by kernel_rfl
  i127 := by kernel_rfl
  i143 := by kernel_rfl
  i145 := by kernel_rfl
  i167 := by kernel_rfl
  i168 := by kernel_rfl
  i171 := by kernel_rfl
  i173 := by kernel_rfl
  i175 := by kernel_rfl
  i210 := by kernel_rfl
  i212 := by kernel_rfl
  i232 := by kernel_rfl
  i233 := by kernel_rfl
  m15 := by kernel_rfl
  m16 := by kernel_rfl
  m17 := by kernel_rfl
  m18 := by kernel_rfl
  m19 := by kernel_rfl
  c0 := by kernel_rfl
  c2 := by kernel_rfl
  c3 := by kernel_rfl
  c4 := by kernel_rfl
  c5 := by kernel_rfl
  c9 := by kernel_rfl
  c20 := by kernel_rfl
  c21 := by kernel_rfl
  c37 := by kernel_rfl
  c46 := by kernel_rfl
  c51 := by kernel_rfl
  c53 := by kernel_rfl
  c75 := by kernel_rfl
  c76 := by kernel_rfl
  c80 := by kernel_rfl
  c85 := by kernel_rfl
  c127 := by kernel_rfl
  c143 := by kernel_rfl
  c145 := by kernel_rfl
  c167 := by kernel_rfl
  c168 := by kernel_rfl
  c171 := by kernel_rfl
  c173 := by kernel_rfl
  c175 := by kernel_rfl
  c210 := by kernel_rfl
  c212 := by kernel_rfl
  c213 := by kernel_rfl
  c232 := by kernel_rfl
  c233 := by kernel_rfl }
open Go.RowKit in
theorem Tryz.strconv_Atoi_ok (s : ByteArray) (hmax : s.size ≤ 9223372036854775806) (v : Int) (h : Lib.atoiAll s.data.toList = .ok v) (w : World) :
    Calls Tryz.prog 121 #[.string s] w fun e w' => e = .returned (.tuple #[.int .i64 v, .nilIface]) ∧ (w' = w ∨ ∃ t, w' = Lib.bytesWorld w 5 t) := Any.strconv_Atoi_ok Tryz.laysC172 s hmax v h w
open Go.RowKit in
theorem Tryz.strconv_Atoi_range_var (s : ByteArray) (hlim : s.size ≤ 281474976710656) (h : Lib.atoiAll s.data.toList = .range) (tp : TypeId) (p : Value) (w : World) (hvar : w.var? Tryz.prog "strconv.ErrRange" = some #[.iface tp p]) :
    Calls Tryz.prog 121 #[.string s] w fun e w' => ∃ N, e = .returned (.tuple #[.int .i64 (Lib.atoiSat s.data.toList), .iface 207 (.pointer (some ⟨N, 0, none⟩))]) ∧ w.heap.size ≤ N ∧ w'.heap[N]? = some (.cells #[.string ⟨#[65, 116, 111, 105]⟩, .string s, .iface tp p] 223 (0, 0)) ∧ Below w.heap.size w w' := Any.strconv_Atoi_range_var Tryz.laysC172 s hlim h tp p w hvar
def Tryz.lays219_ren : Go.Shelf.Ren := ⟨fun | 219 => 123 | 217 => 124 | 225 => 146 | 224 => 147 | 267 => 148 | 266 => 149 | 314 => 168 | n => n, fun | 9 => 9 | 3 => 3 | 4 => 4 | 5 => 5 | 46 => 170 | 146 => 210 | 51 => 190 | n => n, fun | 1 => 0 | n => n⟩
theorem Tryz.lays219 : Go.Proofs.Lays.n219 Tryz.prog Tryz.lays219_ren := {
  mixed := by kernel_rfl
  f217 := Tryz.func124.trans (congrArg some (by kernel_rfl))
  f219 := Tryz.func123.trans (congrArg some (by kernel_rfl))
  f224 := Tryz.func147.trans (congrArg some (by kernel_rfl))
  f225 := Tryz.func146.trans (congrArg some (by kernel_rfl))
  f266 := Tryz.func149.trans (congrArg some (by kernel_rfl))
  f267 := Tryz.func148.trans (congrArg some (by kernel_rfl))
  f314 := Tryz.func168.trans (congrArg some (by kernel_rfl))
  t3 := Tryz.underlying3
  a3 := Tryz.isAgg3
  z3 := Tryz.sizeOf3
  v3 := Tryz.zeroValue3
  t4 := Tryz.underlying4
  a4 := Tryz.isAgg4
  z4 := Tryz.sizeOf4
  v4 := Tryz.zeroValue4
  t5 := Tryz.underlying5
  a5 := Tryz.isAgg5
  z5 := Tryz.sizeOf5
  v5 := Tryz.zeroValue5
  t9 := Tryz.underlying9
  a9 := Tryz.isAgg9
  z9 := Tryz.sizeOf9
  v9 := Tryz.zeroValue9
  t46 := Tryz.underlying170
  a46 := Tryz.isAgg170
  z46 := Tryz.sizeOf170
  v46 := Tryz.zeroValue170
  t51 := Tryz.underlying190
  a51 := Tryz.isAgg190
  z51 := Tryz.sizeOf190
  v51 := Tryz.zeroValue190
  t146 := Tryz.underlying210
  a146 := Tryz.isAgg210
  z146 := Tryz.sizeOf210
  v146 := Tryz.zeroValue210
  g1 := by kernel_rfl }
open Go.RowKit Go.Lib in
theorem Tryz.stringslite_Index_one (s : ByteArray) (c : UInt8) (w : World) :
    Calls Tryz.prog 123 #[.string s, .string ⟨#[c]⟩] w fun e w' => e = .returned (.int .i64 (Lib.indexByte s.data.toList c)) ∧ w' = w := Any.stringslite_Index_one Tryz.lays219 s c w
def Tryz.lays193_ren : Go.Shelf.Ren := ⟨fun | 193 => 96 | n => n, fun | 31 => 50 | 9 => 9 | 4 => 4 | 3 => 3 | 0 => 0 | n => n, fun | n => n⟩
theorem Tryz.lays193 : Go.Proofs.Lays.n193 Tryz.prog Tryz.lays193_ren := {
  mixed := by kernel_rfl
  f193 := Tryz.func96.trans (congrArg some (by kernel_rfl))
  t0 := Tryz.underlying0
  a0 := Tryz.isAgg0
  z0 := Tryz.sizeOf0
  v0 := Tryz.zeroValue0
  t3 := Tryz.underlying3
  a3 := Tryz.isAgg3
  z3 := Tryz.sizeOf3
  v3 := Tryz.zeroValue3
  t4 := Tryz.underlying4
  a4 := Tryz.isAgg4
  z4 := Tryz.sizeOf4
  v4 := Tryz.zeroValue4
  t9 := Tryz.underlying9
  a9 := Tryz.isAgg9
  z9 := Tryz.sizeOf9
  v9 := Tryz.zeroValue9
  t31 := Tryz.underlying50
  a31 := Tryz.isAgg50
  z31 := Tryz.sizeOf50
  v31 := Tryz.zeroValue50 }
open Go.RowKit Go.Lib in
theorem Tryz.slices_Equal_string (b1 o1 n c b2 o2 m d : Nat) (xs ys : List ByteArray) (w : World) (hx : n ≤ xs.length) (hy : m ≤ ys.length) (hbig : n ≤ 9223372036854775807) (hbig2 : m ≤ 9223372036854775807) (hc1 : ∀ j, j < xs.length → w.cell? ⟨b1, o1 + j, none⟩ = some (.string (xs.getD j ByteArray.empty))) (hc2 : ∀ j, j < ys.length → w.cell? ⟨b2, o2 + j, none⟩ = some (.string (ys.getD j ByteArray.empty))) :
    Calls Tryz.prog 96 #[.slice (some ⟨b1, o1, none⟩) n c, .slice (some ⟨b2, o2, none⟩) m d] w fun e w' => e = .returned (.bool (decide (xs.take n = ys.take m))) ∧ ∃ q, w' = w.drewN q := Any.slices_Equal_string Tryz.lays193 b1 o1 n c b2 o2 m d xs ys w hx hy hbig hbig2 hc1 hc2
open Go.RowKit Go.Lib in
theorem Tryz.slices_Equal_string_empty (a1 a2 : Option Addr) (c m d : Nat) (w : World) (hbig2 : m ≤ 9223372036854775807) :
    Calls Tryz.prog 96 #[.slice a1 0 c, .slice a2 m d] w fun e w' => e = .returned (.bool (decide (m = 0))) ∧ w' = w := Any.slices_Equal_string_empty Tryz.lays193 a1 a2 c m d w hbig2
def Tryz.laysNm216_ren : Go.Shelf.Ren := ⟨fun | 16 => 62 | n => n, fun | 24 => 50 | 9 => 9 | 4 => 4 | n => n, fun | n => n⟩
theorem Tryz.laysNm216 : Go.Proofs.Lays2.n16 Tryz.prog Tryz.laysNm216_ren := {
  mixed := by kernel_rfl
  f16 := Tryz.func62.trans (congrArg some (by kernel_rfl))
  t4 := Tryz.underlying4
  a4 := Tryz.isAgg4
  z4 := Tryz.sizeOf4
  v4 := Tryz.zeroValue4
  t9 := Tryz.underlying9
  a9 := Tryz.isAgg9
  z9 := Tryz.sizeOf9
  v9 := Tryz.zeroValue9
  t24 := Tryz.underlying50
  a24 := Tryz.isAgg50
  z24 := Tryz.sizeOf50
  v24 := Tryz.zeroValue50
  i9 := by kernel_rfl }
open Go.RowKit Go.Lib in
theorem Tryz.slices_Clone_string (b off n c : Nat) (zs : List ByteArray) (w : World) (hz : n ≤ zs.length) (hbig : n * 16 ≤ 140737488355328) (hc : ∀ j, j < zs.length → w.cell? ⟨b, off + j, none⟩ = some (.string (zs.getD j ByteArray.empty))) :
    Calls Tryz.prog 62 #[.slice (some ⟨b, off, none⟩) n c] w fun e w' => ∃ v', e = .returned v' ∧ w'.ownsRow w.heap.size 9 1 v' n ((zs.take n).map (Value.string)) ∧ v' ≠ .slice none 0 0 ∧ Below w.heap.size w w' := Any.slices_Clone_string Tryz.laysNm216 b off n c zs w hz hbig hc
open Go.RowKit Go.Lib in
theorem Tryz.slices_Clone_string_nil (n c : Nat) (w : World) :
    Calls Tryz.prog 62 #[.slice none n c] w fun e w' => e = .returned (.slice none 0 0) ∧ w' = w := Any.slices_Clone_string_nil Tryz.laysNm216 n c w
open Go.RowKit Go.Lib in
theorem Tryz.slices_Clone_string_zero (a : Addr) (c : Nat) (w : World) :
    Calls Tryz.prog 62 #[.slice (some a) 0 c] w fun e w' => ∃ v', e = .returned v' ∧ w'.ownsRow w.heap.size 9 1 v' 0 [] ∧ v' ≠ .slice none 0 0 ∧ Below w.heap.size w w' := Any.slices_Clone_string_zero Tryz.laysNm216 a c w
open Go.RowKit Go.Lib in
theorem Tryz.slices_Equal_string_lens (a1 a2 : Option Addr) (n c m d : Nat) (w : World) (hnm : n ≠ m) :
    Calls Tryz.prog 96 #[.slice a1 n c, .slice a2 m d] w fun e w' => e = .returned (.bool false) ∧ w' = w := Any.slices_Equal_string_lens Tryz.lays193 a1 a2 n c m d w hnm
end Go.Proofs
end

section
namespace Go.Proofs.YtcoaajkhfgakgaaGreatDoor.Pr
open Go.RowKit Go.Proofs.YtcoaajkhfgakgaaGreatDoorW.PrintWords Go.Proofs.YtcoaajkhfgakgaaGreatDoorW.PrintLast Go.Proofs.YtcoaajkhfgakgaaGreatDoorW.PrintMore
set_option linter.unusedVariables false
set_option linter.unusedSimpArgs false
theorem slices_Equal_calls (A0 : Option Addr) (c0 : Nat) (l0 : List ByteArray) (A1 : Option Addr) (c1 : Nat) (l1 : List ByteArray) (w : World) (h0 : Kd.C Kd.string w A0 l0.length l0) (h1 : Kd.C Kd.string w A1 l1.length l1) :
    Calls Tryz.prog 96 #[.slice A0 l0.length c0, .slice A1 l1.length c1] w fun e w' => e = .returned (.bool (decide (l0 = l1))) ∧ ∃ q, w' = w.drewN q := by
  by_cases hl : l0.length = l1.length
  · by_cases hz : l0.length = 0
    · have e0 : l0 = [] := List.length_eq_zero_iff.1 hz
      have e1 : l1 = [] := List.length_eq_zero_iff.1 (hl ▸ hz)
      subst e0 e1
      refine (Tryz.slices_Equal_string_empty A0 A1 c0 0 c1 w (by omega)).mono ?_
      rintro e w' ⟨rfl, rfl⟩
      exact ⟨by simp, 0, rfl⟩
    · obtain ⟨b, o, rfl, _, _⟩ := C_cells h0 0 (by omega)
      obtain ⟨b', o', rfl, _, _⟩ := C_cells h1 0 (by omega)
      refine (Tryz.slices_Equal_string b o l0.length c0 b' o' l1.length c1 l0 l1 w (Nat.le_refl _) (Nat.le_refl _) h0.2.1 h1.2.1 (fun j hj => ?_) (fun j hj => ?_)).mono ?_
      · obtain ⟨b2, o2, e2, _, hc⟩ := C_cells h0 j hj
        injection e2 with e2
        injection e2 with e3 e4
        subst e3 e4
        exact hc
      · obtain ⟨b2, o2, e2, _, hc⟩ := C_cells h1 j hj
        injection e2 with e2
        injection e2 with e3 e4
        subst e3 e4
        exact hc
      · rintro e w' ⟨rfl, hq⟩
        exact ⟨by rw [List.take_length, List.take_length], hq⟩
  · refine (Tryz.slices_Equal_string_lens A0 A1 l0.length c0 l1.length c1 w hl).mono ?_
    rintro e w' ⟨rfl, rfl⟩
    exact ⟨by rw [decide_eq_false (fun e => hl (by rw [e]))], 0, rfl⟩
def sameB (o m x : Int) (q k : Bool) (hs : List ByteArray) (o' m' x' : Int) (q' k' : Bool) (hs' : List ByteArray) : Bool :=
  decide (o = o') && decide (m = m') && decide (x = x') && decide (q = q') && decide (k = k') && decide (hs = hs')
def plan_same.f (a0_0 : ByteArray) (a0_1 : Int) (a0_2 : Int) (a0_3 : Int) (a0_4 : Bool) (a0_5 : Bool) (l0_6 : List ByteArray) (a1_0 : ByteArray) (a1_1 : Int) (a1_2 : Int) (a1_3 : Int) (a1_4 : Bool) (a1_5 : Bool) (l1_6 : List ByteArray) : Option (Bool) :=
  some (sameB a0_1 a0_2 a0_3 a0_4 a0_5 l0_6 a1_1 a1_2 a1_3 a1_4 a1_5 l1_6)
set_option maxRecDepth 100000 in
set_option maxHeartbeats 4000000 in
theorem plan_same.calls (a0_0 : ByteArray) (a0_1 : Int) (a0_2 : Int) (a0_3 : Int) (a0_4 : Bool) (a0_5 : Bool) (A0_6 : Option Addr) (c0_6 : Nat) (l0_6 : List ByteArray) (a1_0 : ByteArray) (a1_1 : Int) (a1_2 : Int) (a1_3 : Int) (a1_4 : Bool) (a1_5 : Bool) (A1_6 : Option Addr) (c1_6 : Nat) (l1_6 : List ByteArray) (r : Bool) (w : World) (hr0_6 : Kd.C Kd.string w A0_6 l0_6.length l0_6) (hc0_6 : l0_6.length ≤ c0_6) (hr1_6 : Kd.C Kd.string w A1_6 l1_6.length l1_6) (hc1_6 : l1_6.length ≤ c1_6) (h : plan_same.f a0_0 a0_1 a0_2 a0_3 a0_4 a0_5 l0_6 a1_0 a1_1 a1_2 a1_3 a1_4 a1_5 l1_6 = some r) :
    Calls Tryz.prog 61 #[.agg #[.string a0_0, .int .i64 a0_1, .int .i64 a0_2, .int .i64 a0_3, .bool a0_4, .bool a0_5, .slice A0_6 l0_6.length c0_6], .agg #[.string a1_0, .int .i64 a1_1, .int .i64 a1_2, .int .i64 a1_3, .bool a1_4, .bool a1_5, .slice A1_6 l1_6.length c1_6]] w fun e w' => e = .returned (.bool r) ∧ Below w.heap.size w w' := by
  have hu := Tryz.underlying52
  have hr : sameB a0_1 a0_2 a0_3 a0_4 a0_5 l0_6 a1_1 a1_2 a1_3 a1_4 a1_5 l1_6 = r := Option.some.inj h
  have HR := Aside0.mk hr
  clear h hr
  have HW : Aside0 (Below w.heap.size w ((w.alloc (.cells #[.string a0_0, .int .i64 a0_1, .int .i64 a0_2, .int .i64 a0_3, .bool a0_4, .bool a0_5, .slice A0_6 l0_6.length c0_6] 52)).alloc (.cells #[.string a1_0, .int .i64 a1_1, .int .i64 a1_2, .int .i64 a1_3, .bool a1_4, .bool a1_5, .slice A1_6 l1_6.length c1_6] 52))) := ⟨below_alloc (below_alloc (Below.refl _ _) _) _⟩
  have HEQ := Aside0.mk (slices_Equal_calls A0_6 c0_6 l0_6 A1_6 c1_6 l1_6 _ (Kd.C_below hr0_6 HW.out) (Kd.C_below hr1_6 HW.out))
  have STOP : ∀ b : Bool, sameB a0_1 a0_2 a0_3 a0_4 a0_5 l0_6 a1_1 a1_2 a1_3 a1_4 a1_5 l1_6 = b → Ending.returned (.bool b) = .returned (.bool r) := fun b e => by rw [← HR.out, e]
  have STOP := Aside0.mk STOP
  clear hr0_6 hr1_6 HR
  by_cases t1 : a0_1 = a1_1
  case neg =>
    have E : Aside0 (sameB a0_1 a0_2 a0_3 a0_4 a0_5 l0_6 a1_1 a1_2 a1_3 a1_4 a1_5 l1_6 = false) := ⟨by simp [sameB, t1]⟩
    have q : (a0_1 == a1_1) = false := beq_eq_false_iff_ne.2 t1
    clear t1
    go_enter Tryz.func61, Tryz.ntmps61
    go_wp2
    go_ret
    exact ⟨STOP.out _ E.out, HW.out⟩
  case pos =>
  by_cases t2 : a0_2 = a1_2
  case neg =>
    have E : Aside0 (sameB a0_1 a0_2 a0_3 a0_4 a0_5 l0_6 a1_1 a1_2 a1_3 a1_4 a1_5 l1_6 = false) := ⟨by simp [sameB, t2]⟩
    have q1 : (a0_1 == a1_1) = true := beq_iff_eq.2 t1
    have q : (a0_2 == a1_2) = false := beq_eq_false_iff_ne.2 t2
    clear t1 t2
    go_enter Tryz.func61, Tryz.ntmps61
    go_wp2
    go_ret
    exact ⟨STOP.out _ E.out, HW.out⟩
  case pos =>
  by_cases t3 : a0_3 = a1_3
  case neg =>
    have E : Aside0 (sameB a0_1 a0_2 a0_3 a0_4 a0_5 l0_6 a1_1 a1_2 a1_3 a1_4 a1_5 l1_6 = false) := ⟨by simp [sameB, t3]⟩
    have q1 : (a0_1 == a1_1) = true := beq_iff_eq.2 t1
    have q2 : (a0_2 == a1_2) = true := beq_iff_eq.2 t2
    have q : (a0_3 == a1_3) = false := beq_eq_false_iff_ne.2 t3
    clear t1 t2 t3
    go_enter Tryz.func61, Tryz.ntmps61
    go_wp2
    go_ret
    exact ⟨STOP.out _ E.out, HW.out⟩
  case pos =>
  have q1 : (a0_1 == a1_1) = true := beq_iff_eq.2 t1
  have q2 : (a0_2 == a1_2) = true := beq_iff_eq.2 t2
  have q3 : (a0_3 == a1_3) = true := beq_iff_eq.2 t3
  by_cases t4 : a0_4 = a1_4
  case neg =>
    have E : Aside0 (sameB a0_1 a0_2 a0_3 a0_4 a0_5 l0_6 a1_1 a1_2 a1_3 a1_4 a1_5 l1_6 = false) := ⟨by simp [sameB, t4]⟩
    have q : (a0_4 == a1_4) = false := beq_eq_false_iff_ne.2 t4
    clear t1 t2 t3 t4
    go_enter Tryz.func61, Tryz.ntmps61
    go_wp2
    go_ret
    exact ⟨STOP.out _ E.out, HW.out⟩
  case pos =>
  by_cases t5 : a0_5 = a1_5
  case neg =>
    have E : Aside0 (sameB a0_1 a0_2 a0_3 a0_4 a0_5 l0_6 a1_1 a1_2 a1_3 a1_4 a1_5 l1_6 = false) := ⟨by simp [sameB, t5]⟩
    have q4 : (a0_4 == a1_4) = true := beq_iff_eq.2 t4
    have q : (a0_5 == a1_5) = false := beq_eq_false_iff_ne.2 t5
    clear t1 t2 t3 t4 t5
    go_enter Tryz.func61, Tryz.ntmps61
    go_wp2
    go_ret
    exact ⟨STOP.out _ E.out, HW.out⟩
  case pos =>
  have q4 : (a0_4 == a1_4) = true := beq_iff_eq.2 t4
  have q5 : (a0_5 == a1_5) = true := beq_iff_eq.2 t5
  have E : Aside0 (sameB a0_1 a0_2 a0_3 a0_4 a0_5 l0_6 a1_1 a1_2 a1_3 a1_4 a1_5 l1_6 = decide (l0_6 = l1_6)) := ⟨by simp [sameB, t1, t2, t3, t4, t5]⟩
  clear t1 t2 t3 t4 t5
  go_enter Tryz.func61, Tryz.ntmps61
  go_wp2_with fail
  refine HEQ.out.mono ?_
  rintro e w' ⟨rfl, q, rfl⟩
  have HB2 : Aside0 (Below w.heap.size w (World.drewN ((w.alloc (.cells #[.string a0_0, .int .i64 a0_1, .int .i64 a0_2, .int .i64 a0_3, .bool a0_4, .bool a0_5, .slice A0_6 l0_6.length c0_6] 52)).alloc (.cells #[.string a1_0, .int .i64 a1_1, .int .i64 a1_2, .int .i64 a1_3, .bool a1_4, .bool a1_5, .slice A1_6 l1_6.length c1_6] 52)) q)) := ⟨pw_below_drewN HW.out q⟩
  go_wp2
  go_ret
  exact ⟨STOP.out _ E.out, HB2.out⟩
end Go.Proofs.YtcoaajkhfgakgaaGreatDoor.Pr
end

section
namespace Go.Proofs.YtcoaajkhfgakgaaGreatDoor.Pr
open Go.RowKit Go.Proofs.YtcoaajkhfgakgaaGreatDoorW.PrintWords Go.Proofs.YtcoaajkhfgakgaaGreatDoorW.PrintLast Go.Proofs.YtcoaajkhfgakgaaGreatDoorW.PrintMore
set_option linter.unusedVariables false
set_option linter.unusedSimpArgs false
structure Wd where
  s : ByteArray
  line : Int
def cellsW (ws : List Wd) : List Value := ws.flatMap fun x => [.string x.s, .int .i64 x.line]
theorem cellsW_snoc (ws : List Wd) (x : Wd) : cellsW (ws ++ [x]) = cellsW ws ++ [.string x.s, .int .i64 x.line] := by simp [cellsW]
theorem infoW : (Tryz.prog.info? 130).map (fun i => (i.zero, i.size, i.bytes)) = some (some (.agg #[(.string ⟨#[]⟩), (.int .i64 0)]), 2, 24) := by kernel_rfl
structure WSt (w0 W : World) (b0 b1 b2 b3 : Nat) (s : ByteArray) (line frm : Int) (ws : List Wd) (v : Value) : Prop where
  text : W.heap[b0]? = some (.cells #[.string s] 9 (0, 0))
  out : W.heap[b1]? = some (.cells #[v] 94 (0, 0))
  line : W.heap[b2]? = some (.cells #[.int .i64 line] 3 (0, 0))
  frm : W.heap[b3]? = some (.cells #[.int .i64 frm] 3 (0, 0))
  row : W.ownsRow w0.heap.size 130 2 v ws.length (cellsW ws)
  bel : Below w0.heap.size w0 W
  ne : b0 ≠ b1 ∧ b0 ≠ b2 ∧ b0 ≠ b3 ∧ b1 ≠ b2 ∧ b1 ≠ b3 ∧ b2 ≠ b3
  le : w0.heap.size ≤ b0 ∧ w0.heap.size ≤ b1 ∧ w0.heap.size ≤ b2 ∧ w0.heap.size ≤ b3
section
variable {w0 W W1 : World} {b0 b1 b2 b3 : Nat} {s : ByteArray} {line frm : Int} {ws : List Wd} {v v1 : Value} {o : Obj}
theorem WSt.far_of (h : WSt w0 W b0 b1 b2 b3 s line frm ws v) {k : Nat} {cs : Array Value} {t : TypeId} (hb : W.heap[k]? = some (.cells cs t (0, 0))) (ht : t ≠ 130) : v.ownBlock ≠ some k := by
  intro e
  obtain ⟨cells, hc⟩ := own_typed h.row _ e
  rw [hb] at hc; injection hc with hc; injection hc with _ hc; exact ht hc
theorem WSt.setFrom (h : WSt w0 W b0 b1 b2 b3 s line frm ws v) (f : Int) : WSt w0 (W.setCell ⟨b3, 0, none⟩ (.int .i64 f)) b0 b1 b2 b3 s line f ws v := by
  obtain ⟨n1, n2, n3, n4, n5, n6⟩ := h.ne
  obtain ⟨l0, l1, l2, l3⟩ := h.le
  exact ⟨blk_far h.text n3 _, blk_far h.out n5 _, blk_far h.line n6 _, blk_put h.frm 0 _ rfl, own_setCell h.row (Ne.symm (h.far_of h.frm (by decide))) _, h.bel.setCell l3 _, h.ne, h.le⟩
theorem WSt.setLine (h : WSt w0 W b0 b1 b2 b3 s line frm ws v) (f : Int) : WSt w0 (W.setCell ⟨b2, 0, none⟩ (.int .i64 f)) b0 b1 b2 b3 s f frm ws v := by
  obtain ⟨n1, n2, n3, n4, n5, n6⟩ := h.ne
  obtain ⟨l0, l1, l2, l3⟩ := h.le
  exact ⟨blk_far h.text n2 _, blk_far h.out n4 _, blk_put h.line 0 _ rfl, blk_far h.frm (Ne.symm n6) _, own_setCell h.row (Ne.symm (h.far_of h.line (by decide))) _, h.bel.setCell l2 _, h.ne, h.le⟩
theorem WSt.drew (h : WSt w0 W b0 b1 b2 b3 s line frm ws v) : WSt w0 W.drew b0 b1 b2 b3 s line frm ws v := ⟨h.text, h.out, h.line, h.frm, h.row, h.bel.drew, h.ne, h.le⟩
theorem WSt.grow (h : WSt w0 W b0 b1 b2 b3 s line frm ws v) (x : Wd)
    (hown : W1.ownsRow w0.heap.size 130 2 v1 (ws.length + 1) (cellsW ws ++ [.string x.s, .int .i64 x.line])) (hg : (W.alloc o).drew.grownBy W1 v.ownBlock) (hty : v1.ownBlock ≠ some b1) :
    WSt w0 (W1.setCell ⟨b1, 0, none⟩ v1) b0 b1 b2 b3 s line frm (ws ++ [x]) v1 := by
  have hb : ∀ k o', W.heap[k]? = some o' → v.ownBlock ≠ some k → W1.heap[k]? = some o' := fun k o' ho hk => by
    have h1 : (W.alloc o).drew.heap[k]? = some o' := (Below.heap_alloc W o _ (blk_lt ho)).trans ho
    exact blk_grown h1 hg (fun e => hk e.symm)
  obtain ⟨n1, n2, n3, n4, n5, n6⟩ := h.ne
  obtain ⟨l0, l1, l2, l3⟩ := h.le
  refine ⟨blk_far (hb _ _ h.text (h.far_of h.text (by decide))) n1 _, blk_put (hb _ _ h.out (h.far_of h.out (by decide))) 0 _ rfl, blk_far (hb _ _ h.line (h.far_of h.line (by decide))) (Ne.symm n4) _,
    blk_far (hb _ _ h.frm (h.far_of h.frm (by decide))) (Ne.symm n5) _, ?_, ?_, h.ne, h.le⟩
  · rw [cellsW_snoc, List.length_append, List.length_singleton]
    exact own_setCell hown (Ne.symm hty) _
  · refine Below.setCell ?_ l1 _
    have hb1 : Below w0.heap.size w0 (W.alloc o).drew := (h.bel.alloc h.bel.size o).drew
    exact hb1.grown hg (by have := h.bel.size; simp [World.drew]; omega) (fun k hk => own_base h.row k hk)
end
set_option maxRecDepth 100000 in
set_option maxHeartbeats 3200000 in
theorem words_end (w0 w : World) (b0 b1 b2 b3 : Nat) (s : ByteArray) (line : Int) (f i : Nat) (ws : List Wd) (v : Value) (h : WSt w0 w b0 b1 b2 b3 s line f ws v) (hfi : f ≤ i) (his : i ≤ s.size) (hs : s.size ≤ 1099511627776) (hw : ws.length ≤ 1099511627776) :
    Calls Tryz.prog 68 #[.int .i64 i, .pointer (some ⟨b3, 0, none⟩), .pointer (some ⟨b1, 0, none⟩), .pointer (some ⟨b0, 0, none⟩), .pointer (some ⟨b2, 0, none⟩)] w
      fun e w' => e = .returned (.tuple #[]) ∧ ∃ v', WSt w0 w' b0 b1 b2 b3 s line (-1) (ws ++ [⟨s.extract f i, line⟩]) v' := by
  obtain ⟨i0, hi0, hz0, hz1, hz2⟩ := info_parts infoW
  have H := Aside0.mk h
  have c0 : w.cell? ⟨b0, 0, none⟩ = some (.string s) := (blk_cell h.text 0).trans rfl
  have c1 : w.cell? ⟨b1, 0, none⟩ = some v := (blk_cell h.out 0).trans rfl
  have c2 : w.cell? ⟨b2, 0, none⟩ = some (.int .i64 line) := (blk_cell h.line 0).trans rfl
  have c3 : w.cell? ⟨b3, 0, none⟩ = some (.int .i64 f) := (blk_cell h.frm 0).trans rfl
  have lt0 : b0 < w.heap.size := blk_lt h.text
  have lt1 : b1 < w.heap.size := blk_lt h.out
  have lt2 : b2 < w.heap.size := blk_lt h.line
  have lt3 : b3 < w.heap.size := blk_lt h.frm
  have lw : w0.heap.size ≤ w.heap.size := h.bel.size
  have a0 : ∀ o, (w.alloc o).cell? ⟨b0, 0, none⟩ = some (.string s) := fun o => cell_new_ lt0 c0
  have a1 : ∀ o, (w.alloc o).cell? ⟨b1, 0, none⟩ = some v := fun o => cell_new_ lt1 c1
  have a2 : ∀ o, (w.alloc o).cell? ⟨b2, 0, none⟩ = some (.int .i64 line) := fun o => cell_new_ lt2 c2
  have a3 : ∀ o, (w.alloc o).cell? ⟨b3, 0, none⟩ = some (.int .i64 f) := fun o => cell_new_ lt3 c3
  have z1 : w.frozen? ⟨b1, 0, none⟩ = false := blk_frozen h.out 0
  have z3 : w.frozen? ⟨b3, 0, none⟩ = false := blk_frozen h.frm 0
  have hown := Aside0.mk h.row
  have far0 := h.far_of h.text (by decide)
  have far1 := h.far_of h.out (by decide)
  have far2 := h.far_of h.line (by decide)
  have far3 := h.far_of h.frm (by decide)
  have g0 : (0 : Int) ≤ (f : Int) := Int.natCast_nonneg _
  have g1 : (f : Int) ≤ (i : Int) := by omega
  have g2 : (i : Int) ≤ (s.size : Int) := by omega
  clear h
  go_enter Tryz.func68, Tryz.ntmps68
  go_wp2_with fail
  go_region_law ((refine step_append_lies _ (by rfl) _ _ _ (by rfl) w0.heap.size 130 i0 _ 2 24 Tryz.underlying94 hi0 hz0 hz1 hz2 rfl (by omega) v ws.length (cellsW ws) (by rfl) ((hown.out.alloc _).drew) ⟨w.heap.size, 0, none⟩ 1 1 [.string (s.extract f i), .int .i64 line] (by rfl) (by rfl) (World.news_of_block (cs := #[.string (s.extract f i), .int .i64 line]) (t := 130) (fr := (0, 0)) (heap_alloc_new w _)) (by simp [Value.oneCell']) (by omega) (by unfold maxLen; omega) (by omega) (by simp; omega) (w.heap.size + 1) (by simp) ?_; intro gg cap w1 hown1 hgrow hat hlt; have c1b : w1.cell? ⟨b1, 0, none⟩ = some v := (hgrow.cell_far _ (by simp; omega) (Ne.symm far1)).trans (cell_new_ lt1 c1); have z1b : w1.frozen? ⟨b1, 0, none⟩ = false := (hgrow.frozen_far _ (by simp; omega) (Ne.symm far1)).trans (frz_new lt1 z1)))
  all_goals
    have hty : (Value.slice (some ⟨gg, 0, none⟩) (ws.length + 1) cap).ownBlock ≠ some b1 := by
      rcases hat with hat | hat
      · exact fun e => far1 (hat.trans (show some gg = _ from e))
      · simp only [Value.ownBlock]; intro e; injection e with e; omega
    have hst := H.out.grow ⟨s.extract f i, line⟩ hown1 hgrow hty
    generalize w1.setCell ⟨b1, 0, none⟩ (Value.slice (some ⟨gg, 0, none⟩) (ws.length + 1) cap) = w2 at hst ⊢
    have d3 : w2.cell? ⟨b3, 0, none⟩ = some (.int .i64 f) := (blk_cell hst.frm 0).trans rfl
    have e3 : w2.frozen? ⟨b3, 0, none⟩ = false := blk_frozen hst.frm 0
    have hst2 := Aside0.mk (hst.setFrom (-1))
    clear hst hown1 hgrow hat hlt c1b z1b hty
    go_wp2
    go_end0
    exact ⟨rfl, _, hst2.out⟩
def endW (s : ByteArray) (i : Nat) (line frm : Int) (ws : List Wd) : List Wd := if 0 ≤ frm then ws ++ [⟨s.extract frm.toNat i, line⟩] else ws
set_option maxHeartbeats 800000 in
theorem words_end_none (w0 w : World) (b0 b1 b2 b3 : Nat) (s : ByteArray) (line frm i : Int) (ws : List Wd) (v : Value) (h : WSt w0 w b0 b1 b2 b3 s line frm ws v) (hf : frm < 0) :
    Calls Tryz.prog 68 #[.int .i64 i, .pointer (some ⟨b3, 0, none⟩), .pointer (some ⟨b1, 0, none⟩), .pointer (some ⟨b0, 0, none⟩), .pointer (some ⟨b2, 0, none⟩)] w
      fun e w' => e = .returned (.tuple #[]) ∧ WSt w0 w' b0 b1 b2 b3 s line (-1) ws v := by
  have H := Aside0.mk (h.setFrom (-1))
  have c3 : w.cell? ⟨b3, 0, none⟩ = some (.int .i64 frm) := (blk_cell h.frm 0).trans rfl
  have z3 : w.frozen? ⟨b3, 0, none⟩ = false := blk_frozen h.frm 0
  clear h
  go_enter Tryz.func68, Tryz.ntmps68
  go_wp2
  go_end0
  exact ⟨rfl, H.out⟩
theorem words_end_any (w0 w : World) (b0 b1 b2 b3 : Nat) (s : ByteArray) (line frm : Int) (i : Nat) (ws : List Wd) (v : Value) (h : WSt w0 w b0 b1 b2 b3 s line frm ws v) (hfi : frm ≤ i) (his : i ≤ s.size) (hs : s.size ≤ 1099511627776) (hw : ws.length ≤ 1099511627776) :
    Calls Tryz.prog 68 #[.int .i64 i, .pointer (some ⟨b3, 0, none⟩), .pointer (some ⟨b1, 0, none⟩), .pointer (some ⟨b0, 0, none⟩), .pointer (some ⟨b2, 0, none⟩)] w
      fun e w' => e = .returned (.tuple #[]) ∧ ∃ v', WSt w0 w' b0 b1 b2 b3 s line (-1) (endW s i line frm ws) v' := by
  by_cases hf : 0 ≤ frm
  · obtain ⟨f, rfl⟩ := Int.eq_ofNat_of_zero_le hf
    refine (words_end w0 w b0 b1 b2 b3 s line f i ws v h (by omega) his hs hw).mono ?_
    rintro e w' ⟨rfl, v', h'⟩
    refine ⟨rfl, v', ?_⟩
    unfold endW
    rw [if_pos hf, Int.toNat_natCast]
    exact h'
  · refine (words_end_none w0 w b0 b1 b2 b3 s line frm i ws v h (by omega)).mono ?_
    rintro e w' ⟨rfl, h'⟩
    refine ⟨rfl, v, ?_⟩
    unfold endW
    rw [if_neg hf]
    exact h'
end Go.Proofs.YtcoaajkhfgakgaaGreatDoor.Pr
end

section
namespace Go.Proofs.YtcoaajkhfgakgaaGreatDoor.Pr
open Go.RowKit Go.Proofs.YtcoaajkhfgakgaaGreatDoorW.PrintWords Go.Proofs.YtcoaajkhfgakgaaGreatDoorW.PrintLast Go.Proofs.YtcoaajkhfgakgaaGreatDoorW.PrintMore
set_option linter.unusedVariables false
set_option linter.unusedSimpArgs false
def RdW (w : World) (A : Option Addr) (l : List Wd) : Prop := ReadsRow (fun (x : Wd) cs => cs = [.string x.s, .int .i64 x.line]) 2 w A l.length l
structure St where
  l : List Wd
  code : Int
  line : Int
def IsRd (w0 W : World) (g : Nat) (st : St) : Prop :=
  ∃ A c, W.heap[g]? = some (.cells #[.slice A st.l.length c, .int .i64 st.code, .int .i64 st.line] 97 (0, 0)) ∧ st.l.length ≤ c ∧ w0.heap.size ≤ g ∧ RdW w0 A st.l ∧ 0 < st.l.length
def hdW (l : List Wd) : Wd := l.headD ⟨⟨#[]⟩, 0⟩
def nextS (st : St) : ByteArray := if st.code = 0 then (hdW st.l).s else ⟨#[]⟩
def failS (st : St) (e : Int) : St := if st.code = 0 then { st with code := e, line := (hdW st.l).line } else st
def takeS (st : St) : St := if st.code = 0 ∧ 1 < st.l.length then { st with l := st.l.tail } else st
def mustS (st : St) (s : ByteArray) : St := takeS (if nextS st = s then st else failS st 30)
theorem RdW.head {w0 : World} {A : Option Addr} {l : List Wd} (h : RdW w0 A l) (h0 : 0 < l.length) :
    ∃ b o, A = some ⟨b, o, none⟩ ∧ w0.cell? ⟨b, o, none⟩ = some (.string (hdW l).s) ∧ w0.cell? ⟨b, o + 1, none⟩ = some (.int .i64 (hdW l).line) := by
  obtain ⟨ad, he, hc⟩ := h.2.2 h0
  obtain ⟨x, r, rfl⟩ : ∃ x r, l = x :: r := by cases l with | nil => simp at h0 | cons x r => exact ⟨x, r, rfl⟩
  obtain ⟨c, _, rfl, hcell⟩ := hc 0 x rfl
  have h1 := hcell 0 _ rfl
  have h2 := hcell 1 _ rfl
  rw [addr_add_zero] at h1
  have hs := spot_of_cell h1
  obtain ⟨b, o, sp⟩ := ad
  simp only at hs
  subst hs
  rw [add_none] at h2
  exact ⟨b, o, he, h1, h2⟩
theorem cell_by {w0 W : World} (hB : Below w0.heap.size w0 W) {a : Addr} {v : Value} (h : w0.cell? a = some v) : W.cell? a = some v := pw_cell_below hB h
theorem reader_next_calls (w0 w : World) (g : Nat) (st : St) (h : IsRd w0 w g st) (hB : Below w0.heap.size w0 w) :
    Calls Tryz.prog 69 #[.pointer (some ⟨g, 0, none⟩)] w fun e w' => e = .returned (.string (nextS st)) ∧ w' = w := by
  obtain ⟨A, c, hb, hlc, hg, hrd, h0⟩ := h
  have c1 : w.cell? ⟨g, 1, none⟩ = some (.int .i64 st.code) := (blk_cell hb 1).trans rfl
  have hu := Tryz.underlying97
  by_cases hz : st.code = 0
  · have e : nextS st = (hdW st.l).s := by unfold nextS; rw [if_pos hz]
    obtain ⟨b, o, rfl, d0, d1⟩ := hrd.head h0
    have c0 : w.cell? ⟨g, 0, none⟩ = some (.slice (some ⟨b, o, none⟩) st.l.length c) := (blk_cell hb 0).trans rfl
    have d0 := cell_by hB d0
    rw [hz] at c1
    have E := Aside0.mk e
    clear e hb hrd hz d1
    generalize (hdW st.l).s = x at *
    generalize nextS st = y at *
    generalize st.l.length = n at *
    go_enter Tryz.func69, Tryz.ntmps69
    go_wp2
    go_ret
    exact ⟨congrArg (fun z => Ending.returned (.string z)) E.out.symm, rfl⟩
  · have e : nextS st = ⟨#[]⟩ := by unfold nextS; rw [if_neg hz]
    have E := Aside0.mk e
    have hq : (st.code != 0) = true := by simpa using hz
    clear e hb hrd hz
    generalize nextS st = y at *
    generalize st.code = cd at *
    go_enter Tryz.func69, Tryz.ntmps69
    go_wp2
    go_ret
    exact ⟨congrArg (fun z => Ending.returned (.string z)) E.out.symm, rfl⟩
theorem reader_fail_calls (w0 w : World) (g : Nat) (st : St) (x : Int) (h : IsRd w0 w g st) (hB : Below w0.heap.size w0 w) :
    Calls Tryz.prog 70 #[.pointer (some ⟨g, 0, none⟩), .int .i64 x] w fun e w' => e = .returned (.tuple #[]) ∧ IsRd w0 w' g (failS st x) ∧ Below w0.heap.size w0 w' ∧ KeepBut w w' g none := by
  have hI := Aside0.mk h
  obtain ⟨A, c, hb, hlc, hg, hrd, h0⟩ := h
  have c1 : w.cell? ⟨g, 1, none⟩ = some (.int .i64 st.code) := (blk_cell hb 1).trans rfl
  have c2 : w.cell? ⟨g, 2, none⟩ = some (.int .i64 st.line) := (blk_cell hb 2).trans rfl
  have z1 : w.frozen? ⟨g, 1, none⟩ = false := blk_frozen hb 1
  have z2 : w.frozen? ⟨g, 2, none⟩ = false := blk_frozen hb 2
  have hu := Tryz.underlying97
  have hu2 := Tryz.underlying43
  have hu3 := Tryz.underlying129
  by_cases hz : st.code = 0
  · have e : failS st x = { st with code := x, line := (hdW st.l).line } := by unfold failS; rw [if_pos hz]
    obtain ⟨b, o, rfl, d0, d1⟩ := hrd.head h0
    have c0 : w.cell? ⟨g, 0, none⟩ = some (.slice (some ⟨b, o, none⟩) st.l.length c) := (blk_cell hb 0).trans rfl
    have d1 := cell_by hB d1
    have F : Aside0 (IsRd w0 ((w.setCell ⟨g, 1, none⟩ (.int .i64 x)).setCell ⟨g, 2, none⟩ (.int .i64 (hdW st.l).line)) g (failS st x) ∧ Below w0.heap.size w0 ((w.setCell ⟨g, 1, none⟩ (.int .i64 x)).setCell ⟨g, 2, none⟩ (.int .i64 (hdW st.l).line)) ∧ KeepBut w ((w.setCell ⟨g, 1, none⟩ (.int .i64 x)).setCell ⟨g, 2, none⟩ (.int .i64 (hdW st.l).line)) g none) := by
      refine ⟨?_, ?_, ?_⟩
      · rw [e]
        exact ⟨_, c, blk_put (blk_put hb 1 _ rfl) 2 _ rfl, hlc, hg, hrd, h0⟩
      · exact below_set (below_set hB hg) hg
      · exact KeepBut.set_ (KeepBut.set_ (KeepBut.refl _ _ _) _ _) _ _
    rw [hz] at c1
    clear e hb hrd hz hI d0
    generalize failS st x = y at *
    generalize (hdW st.l).line = ln at *
    generalize st.l.length = n at *
    go_enter Tryz.func70, Tryz.ntmps70
    go_wp2
    go_end0
    exact ⟨rfl, F.out⟩
  · have e : failS st x = st := by unfold failS; rw [if_neg hz]
    have hq : (st.code == 0) = false := beq_eq_false_iff_ne.2 hz
    have F : Aside0 (IsRd w0 w g (failS st x) ∧ Below w0.heap.size w0 w ∧ KeepBut w w g none) := ⟨by rw [e]; exact ⟨hI.out, hB, KeepBut.refl _ _ _⟩⟩
    clear e hb hrd hz hI
    generalize failS st x = y at *
    generalize st.code = cd at *
    go_enter Tryz.func70, Tryz.ntmps70
    go_wp2
    go_end0
    exact ⟨rfl, F.out⟩
theorem cut_tail (b o n c : Nat) (h1 : 1 < n) (h2 : n ≤ c) : ∀ W : World, (Instr.slice 94 (.slice (some ⟨b, o, none⟩) n c) (some (.int .i64 1)) none none).run Tryz.prog W = .ok (.slice (some ⟨b, o + 2, none⟩) (n - 1) (c - 1)) W := by
  intro W
  obtain ⟨i0, hi0, hz0, hz1, hz2⟩ := info_parts infoW
  have hel : Tryz.prog.elem 94 = 130 := by simp [Program.elem, Tryz.underlying94]
  have hu : Tryz.prog.underlying 94 = some (.slice (Tryz.prog.elem 94)) := by rw [hel]; exact Tryz.underlying94
  rw [run_slice_l W 94 (some ⟨b, o, none⟩) n c hu .i64 1 (by omega) (by omega), hel]
  have hc : c ≠ 1 := by omega
  simp [sizeOf, typeInfo, hi0, hz1, sliced, Result.andThen, hc, Addr.add]
theorem RdW.tail {w0 : World} {b o : Nat} {l : List Wd} (h : RdW w0 (some ⟨b, o, none⟩) l) : RdW w0 (some ⟨b, o + 2, none⟩) l.tail := by
  refine ⟨rfl, ?_, fun hp => ?_⟩
  · have := h.2.1; simp; omega
  · obtain ⟨ad, he, hc⟩ := h.2.2 (by simp at hp; omega)
    injection he with he
    subst he
    refine ⟨_, rfl, fun j p hj => ?_⟩
    have hj' : l[j + 1]? = some p := by rw [← hj]; simp
    obtain ⟨cs, h1, h2, h3⟩ := hc (j + 1) p hj'
    refine ⟨cs, h1, h2, fun i u hu => ?_⟩
    have := h3 i u hu
    rw [add_none] at this ⊢
    rw [show o + 2 + (j * 2 + i) = o + ((j + 1) * 2 + i) from by omega]
    exact this
theorem toList_ne {a b : ByteArray} (h : a ≠ b) : (a.toList == b.toList) = false := by
  rw [beq_eq_false_iff_ne]
  intro e
  apply h
  rw [Lib.toList_data, Lib.toList_data] at e
  obtain ⟨⟨x⟩⟩ := a
  obtain ⟨⟨y⟩⟩ := b
  simp only at e
  rw [e]
set_option maxRecDepth 100000 in
theorem reader_take_calls (w0 w : World) (g : Nat) (st : St) (h : IsRd w0 w g st) (hB : Below w0.heap.size w0 w) :
    Calls Tryz.prog 72 #[.pointer (some ⟨g, 0, none⟩)] w fun e w' => e = .returned (.tuple #[]) ∧ IsRd w0 w' g (takeS st) ∧ Below w0.heap.size w0 w' ∧ KeepBut w w' g none := by
  have hI := Aside0.mk h
  obtain ⟨A, c, hb, hlc, hg, hrd, h0⟩ := h
  have c1 : w.cell? ⟨g, 1, none⟩ = some (.int .i64 st.code) := (blk_cell hb 1).trans rfl
  have z0 : w.frozen? ⟨g, 0, none⟩ = false := blk_frozen hb 0
  have hu := Tryz.underlying97
  have hu2 := Tryz.underlying43
  have G : takeS st = st → Aside0 (IsRd w0 w g (takeS st) ∧ Below w0.heap.size w0 w ∧ KeepBut w w g none) := fun e => ⟨by rw [e]; exact ⟨hI.out, hB, KeepBut.refl _ _ _⟩⟩
  by_cases hz : st.code = 0
  · obtain ⟨b, o, rfl, d0, d1⟩ := hrd.head h0
    have c0 : w.cell? ⟨g, 0, none⟩ = some (.slice (some ⟨b, o, none⟩) st.l.length c) := (blk_cell hb 0).trans rfl
    by_cases hn : 1 < st.l.length
    · have e : takeS st = { st with l := st.l.tail } := by unfold takeS; rw [if_pos ⟨hz, hn⟩]
      have hlt : st.l.tail.length = st.l.length - 1 := by simp
      have F : Aside0 (IsRd w0 (w.setCell ⟨g, 0, none⟩ (.slice (some ⟨b, o + 2, none⟩) (st.l.length - 1) (c - 1))) g (takeS st) ∧ Below w0.heap.size w0 (w.setCell ⟨g, 0, none⟩ (.slice (some ⟨b, o + 2, none⟩) (st.l.length - 1) (c - 1))) ∧ KeepBut w (w.setCell ⟨g, 0, none⟩ (.slice (some ⟨b, o + 2, none⟩) (st.l.length - 1) (c - 1))) g none) := by
        refine ⟨?_, below_set hB hg, KeepBut.set_ (KeepBut.refl _ _ _) _ _⟩
        rw [e]
        exact ⟨some ⟨b, o + 2, none⟩, c - 1, blk_put hb 0 _ (by rw [hlt]; rfl), by rw [hlt]; omega, hg, hrd.tail, by rw [hlt]; omega⟩
      have hsl := cut_tail b o st.l.length c hn hlc
      rw [hz] at c1
      clear e hb hrd hz hI d0 d1 hlt G
      generalize takeS st = y at *
      generalize st.l.length = n at *
      go_enter Tryz.func72, Tryz.ntmps72
      go_wp2
      go_end0
      exact ⟨rfl, F.out⟩
    · have F := G (by unfold takeS; rw [if_neg (by rintro ⟨_, h⟩; exact hn h)])
      rw [hz] at c1
      clear hb hrd hz hI d0 d1 G
      generalize takeS st = y at *
      generalize st.l.length = n at *
      go_enter Tryz.func72, Tryz.ntmps72
      go_wp2
      go_end0
      exact ⟨rfl, F.out⟩
  · have F := G (by unfold takeS; rw [if_neg (by rintro ⟨h, _⟩; exact hz h)])
    have hq : (st.code == 0) = false := beq_eq_false_iff_ne.2 hz
    clear hb hrd hz hI G
    generalize takeS st = y at *
    generalize st.code = cd at *
    go_enter Tryz.func72, Tryz.ntmps72
    go_wp2
    go_end0
    exact ⟨rfl, F.out⟩
theorem keep_then {w w1 w2 : World} {g : Nat} (h : KeepBut w w1 g none) (k : KeepBut w1 w2 g none) : KeepBut w w2 g none := KeepBut.trans h k (.inl rfl)
set_option maxRecDepth 100000 in
theorem reader_must_calls (w0 w : World) (g : Nat) (st : St) (s : ByteArray) (h : IsRd w0 w g st) (hB : Below w0.heap.size w0 w) :
    Calls Tryz.prog 71 #[.pointer (some ⟨g, 0, none⟩), .string s] w fun e w' => e = .returned (.tuple #[]) ∧ IsRd w0 w' g (mustS st s) ∧ Below w0.heap.size w0 w' ∧ KeepBut w w' g none := by
  have hn := Aside0.mk (reader_next_calls w0 w g st h hB)
  have hI := Aside0.mk h
  have hB := Aside0.mk hB
  by_cases hx : nextS st = s
  · have e : Aside0 (mustS st s = takeS st) := ⟨by unfold mustS; rw [if_pos hx]⟩
    rw [hx] at hn
    clear hx h
    go_enter Tryz.func71, Tryz.ntmps71
    go_wp2_with fail
    refine hn.out.mono ?_
    rintro e w' ⟨rfl, rfl⟩
    go_wp2_with fail
    refine (reader_take_calls w0 _ g st hI.out hB.out).mono ?_
    rintro e w1 ⟨rfl, h1, h2, h3⟩
    have H1 := Aside0.mk (And.intro h1 (And.intro h2 h3))
    clear h1 h2 h3
    go_wp2
    go_end0
    exact ⟨rfl, by rw [e.out]; exact H1.out⟩
  · have e : Aside0 (mustS st s = takeS (failS st 30)) := ⟨by unfold mustS; rw [if_neg hx]⟩
    have hq := toList_ne hx
    clear hx h
    generalize nextS st = x at *
    go_enter Tryz.func71, Tryz.ntmps71
    go_wp2_with fail
    refine hn.out.mono ?_
    rintro e w' ⟨rfl, rfl⟩
    go_wp2_with fail
    refine (reader_fail_calls w0 _ g st 30 hI.out hB.out).mono ?_
    rintro e w1 ⟨rfl, h1, h2, h3⟩
    have H1 := Aside0.mk (And.intro h1 (And.intro h2 h3))
    clear h1 h2 h3
    go_wp2_with fail
    refine (reader_take_calls w0 _ g _ H1.out.1 H1.out.2.1).mono ?_
    rintro e w2 ⟨rfl, h1, h2, h3⟩
    have H2 := Aside0.mk (And.intro h1 (And.intro h2 h3))
    clear h1 h2 h3
    go_wp2
    go_end0
    exact ⟨rfl, by rw [e.out]; exact ⟨H2.out.1, H2.out.2.1, keep_then H1.out.2.2 H2.out.2.2⟩⟩
end Go.Proofs.YtcoaajkhfgakgaaGreatDoor.Pr
end

section
namespace Go.Proofs.YtcoaajkhfgakgaaGreatDoor.Pr
open Go.RowKit Go.Proofs.YtcoaajkhfgakgaaGreatDoorW.PrintWords Go.Proofs.YtcoaajkhfgakgaaGreatDoorW.PrintLast Go.Proofs.YtcoaajkhfgakgaaGreatDoorW.PrintMore
attribute [local go_sem] max2_int min2_int max_two min_two max_three min_three max_four min_four   -- for this text's walks alone
set_option linter.unusedVariables false
set_option linter.unusedSimpArgs false
def errW : Option Int → Value
  | none => .nilIface
  | some c => .iface 0 (.int .i64 c)
theorem errW_none : errW none = .nilIface := rfl
theorem errW_some (c : Int) : errW (some c) = .iface 0 (.int .i64 c) := rfl
theorem info52 : (Tryz.prog.info? 52).map (fun i => (i.zero, i.size, i.bytes)) = some (some (.agg #[(.string ⟨#[]⟩), (.int .i64 0), (.int .i64 0), (.int .i64 0), (.bool false), (.bool false), (.slice none 0 0)]), 7, 72) := by kernel_rfl
theorem info70 : (Tryz.prog.info? 70).map (fun i => (i.zero, i.size, i.bytes)) = some (some (.agg #[(.string ⟨#[]⟩), (.int .i64 0), (.int .i64 0), (.int .i64 0), (.bool false), (.bool false), (.slice none 0 0), (.int .i64 0)]), 8, 80) := by kernel_rfl
structure S52 where
  f0 : ByteArray
  f1 : Int
  f2 : Int
  f3 : Int
  f4 : Bool
  f5 : Bool
  f6 : (List ByteArray)
def z52 : S52 := ⟨(⟨#[]⟩ : ByteArray), (0 : Int), (0 : Int), (0 : Int), false, false, ([] : List ByteArray)⟩
def k52 : Kd S52 := Kd.iso (Kd.pair Kd.string (Kd.pair (Kd.int .i64) (Kd.pair (Kd.int .i64) (Kd.pair (Kd.int .i64) (Kd.pair Kd.bool (Kd.pair Kd.bool (Kd.slice 9 Kd.string))))))) (fun x : S52 => (x.f0, x.f1, x.f2, x.f3, x.f4, x.f5, x.f6))
theorem k52_open {w : World} {x : S52} {cs : List Value} (h : k52.K w x cs) : ∃ A6 c6, cs = [.string x.f0, .int .i64 x.f1, .int .i64 x.f2, .int .i64 x.f3, .bool x.f4, .bool x.f5, .slice A6 x.f6.length c6] ∧ x.f6.length ≤ c6 ∧ Kd.string.C w A6 x.f6.length x.f6 := by
  obtain ⟨_, _, rfl, rfl, ⟨_, _, rfl, rfl, ⟨_, _, rfl, rfl, ⟨_, _, rfl, rfl, ⟨_, _, rfl, rfl, ⟨_, _, rfl, rfl, ⟨A6, c6, rfl, l6, g6⟩⟩⟩⟩⟩⟩⟩ := h
  exact ⟨A6, c6, rfl, l6, g6⟩
theorem k52_openM {w : World} {base : Nat} {ok : Nat → Prop} {x : S52} {cs : List Value} (h : k52.M w base ok x cs) : ∃ v6, cs = [.string x.f0, .int .i64 x.f1, .int .i64 x.f2, .int .i64 x.f3, .bool x.f4, .bool x.f5, v6] ∧ Kd.string.R 9 w base ok v6 x.f6 := by
  obtain ⟨_, _, rfl, rfl, ⟨_, _, rfl, rfl, ⟨_, _, rfl, rfl, ⟨_, _, rfl, rfl, ⟨_, _, rfl, rfl, ⟨_, _, rfl, rfl, ⟨v6, rfl, g6⟩⟩⟩⟩⟩⟩⟩ := h
  exact ⟨v6, rfl, g6⟩
theorem k52_mkM (w : World) (base : Nat) (ok : Nat → Prop) (x : S52) {v6 : Value} (g6 : Kd.string.R 9 w base ok v6 x.f6) : k52.M w base ok x [.string x.f0, .int .i64 x.f1, .int .i64 x.f2, .int .i64 x.f3, .bool x.f4, .bool x.f5, v6] := ⟨[.string x.f0], [.int .i64 x.f1, .int .i64 x.f2, .int .i64 x.f3, .bool x.f4, .bool x.f5, v6], rfl, rfl, ⟨[.int .i64 x.f1], [.int .i64 x.f2, .int .i64 x.f3, .bool x.f4, .bool x.f5, v6], rfl, rfl, ⟨[.int .i64 x.f2], [.int .i64 x.f3, .bool x.f4, .bool x.f5, v6], rfl, rfl, ⟨[.int .i64 x.f3], [.bool x.f4, .bool x.f5, v6], rfl, rfl, ⟨[.bool x.f4], [.bool x.f5, v6], rfl, rfl, ⟨[.bool x.f5], [v6], rfl, rfl, ⟨v6, rfl, g6⟩⟩⟩⟩⟩⟩⟩
def rd_T52 (xs : List S52) (i : Int) : S52 := xs.getD i.toNat z52
theorem at_T52 {w : World} {A : Option Addr} {n : Nat} {xs : List S52} (h : Kd.C k52 w A n xs) (i : Int) (h0 : 0 ≤ i) (h1 : i < n) : ∃ ad A6 c6, A = some ad ∧ w.cell? (ad.add (i.toNat * 7)) = some (.string (rd_T52 xs i).f0) ∧ w.cell? ⟨(ad.add (i.toNat * 7)).block, (ad.add (i.toNat * 7)).off + 1, none⟩ = some (.int .i64 (rd_T52 xs i).f1) ∧ w.cell? ⟨(ad.add (i.toNat * 7)).block, (ad.add (i.toNat * 7)).off + 2, none⟩ = some (.int .i64 (rd_T52 xs i).f2) ∧ w.cell? ⟨(ad.add (i.toNat * 7)).block, (ad.add (i.toNat * 7)).off + 3, none⟩ = some (.int .i64 (rd_T52 xs i).f3) ∧ w.cell? ⟨(ad.add (i.toNat * 7)).block, (ad.add (i.toNat * 7)).off + 4, none⟩ = some (.bool (rd_T52 xs i).f4) ∧ w.cell? ⟨(ad.add (i.toNat * 7)).block, (ad.add (i.toNat * 7)).off + 5, none⟩ = some (.bool (rd_T52 xs i).f5) ∧ w.cell? ⟨(ad.add (i.toNat * 7)).block, (ad.add (i.toNat * 7)).off + 6, none⟩ = some (.slice A6 (rd_T52 xs i).f6.length c6) ∧ (rd_T52 xs i).f6.length ≤ c6 ∧ Kd.string.C w A6 (rd_T52 xs i).f6.length (rd_T52 xs i).f6 := by
  obtain ⟨ad, c, e, _, hK, hc0⟩ := Kd.C_get h z52 i h0 h1
  have hc : ∀ j u, c[j]? = some u → w.cell? (ad.add (i.toNat * 7 + j)) = some u := hc0
  obtain ⟨A6, c6, rfl, l6, g6⟩ := k52_open hK
  exact ⟨ad, A6, c6, e, hc 0 _ rfl, by rw [← add_field _ _ 1 (by omega)]; exact hc 1 _ rfl, by rw [← add_field _ _ 2 (by omega)]; exact hc 2 _ rfl, by rw [← add_field _ _ 3 (by omega)]; exact hc 3 _ rfl, by rw [← add_field _ _ 4 (by omega)]; exact hc 4 _ rfl, by rw [← add_field _ _ 5 (by omega)]; exact hc 5 _ rfl, by rw [← add_field _ _ 6 (by omega)]; exact hc 6 _ rfl, l6, g6⟩
structure S24 where
  f0 : (List S52)
def z24 : S24 := ⟨([] : List S52)⟩
structure S70 where
  f0 : S52
  f1 : Int
def z70 : S70 := ⟨z52, (0 : Int)⟩
def k70 : Kd S70 := Kd.iso (Kd.pair k52 (Kd.int .i64)) (fun x : S70 => (x.f0, x.f1))
theorem k70_open {w : World} {x : S70} {cs : List Value} (h : k70.K w x cs) : ∃ A6 c6, cs = [.string x.f0.f0, .int .i64 x.f0.f1, .int .i64 x.f0.f2, .int .i64 x.f0.f3, .bool x.f0.f4, .bool x.f0.f5, .slice A6 x.f0.f6.length c6, .int .i64 x.f1] ∧ x.f0.f6.length ≤ c6 ∧ Kd.string.C w A6 x.f0.f6.length x.f0.f6 := by
  obtain ⟨_, _, rfl, s0, rfl⟩ := h
  obtain ⟨A6, c6, rfl, l6, g6⟩ := k52_open s0
  exact ⟨A6, c6, rfl, l6, g6⟩
theorem k70_openM {w : World} {base : Nat} {ok : Nat → Prop} {x : S70} {cs : List Value} (h : k70.M w base ok x cs) : ∃ v6, cs = [.string x.f0.f0, .int .i64 x.f0.f1, .int .i64 x.f0.f2, .int .i64 x.f0.f3, .bool x.f0.f4, .bool x.f0.f5, v6, .int .i64 x.f1] ∧ Kd.string.R 9 w base ok v6 x.f0.f6 := by
  obtain ⟨_, _, rfl, s0, rfl⟩ := h
  obtain ⟨v6, rfl, g6⟩ := k52_openM s0
  exact ⟨v6, rfl, g6⟩
theorem k70_mkM (w : World) (base : Nat) (ok : Nat → Prop) (x : S70) {v6 : Value} (g6 : Kd.string.R 9 w base ok v6 x.f0.f6) : k70.M w base ok x [.string x.f0.f0, .int .i64 x.f0.f1, .int .i64 x.f0.f2, .int .i64 x.f0.f3, .bool x.f0.f4, .bool x.f0.f5, v6, .int .i64 x.f1] := ⟨[.string x.f0.f0, .int .i64 x.f0.f1, .int .i64 x.f0.f2, .int .i64 x.f0.f3, .bool x.f0.f4, .bool x.f0.f5, v6], [.int .i64 x.f1], rfl, (k52_mkM w base ok x.f0 g6), rfl⟩
def rd_T70 (xs : List S70) (i : Int) : S70 := xs.getD i.toNat z70
theorem at_T70 {w : World} {A : Option Addr} {n : Nat} {xs : List S70} (h : Kd.C k70 w A n xs) (i : Int) (h0 : 0 ≤ i) (h1 : i < n) : ∃ ad A6 c6, A = some ad ∧ w.cell? (ad.add (i.toNat * 8)) = some (.string (rd_T70 xs i).f0.f0) ∧ w.cell? ⟨(ad.add (i.toNat * 8)).block, (ad.add (i.toNat * 8)).off + 1, none⟩ = some (.int .i64 (rd_T70 xs i).f0.f1) ∧ w.cell? ⟨(ad.add (i.toNat * 8)).block, (ad.add (i.toNat * 8)).off + 2, none⟩ = some (.int .i64 (rd_T70 xs i).f0.f2) ∧ w.cell? ⟨(ad.add (i.toNat * 8)).block, (ad.add (i.toNat * 8)).off + 3, none⟩ = some (.int .i64 (rd_T70 xs i).f0.f3) ∧ w.cell? ⟨(ad.add (i.toNat * 8)).block, (ad.add (i.toNat * 8)).off + 4, none⟩ = some (.bool (rd_T70 xs i).f0.f4) ∧ w.cell? ⟨(ad.add (i.toNat * 8)).block, (ad.add (i.toNat * 8)).off + 5, none⟩ = some (.bool (rd_T70 xs i).f0.f5) ∧ w.cell? ⟨(ad.add (i.toNat * 8)).block, (ad.add (i.toNat * 8)).off + 6, none⟩ = some (.slice A6 (rd_T70 xs i).f0.f6.length c6) ∧ w.cell? ⟨(ad.add (i.toNat * 8)).block, (ad.add (i.toNat * 8)).off + 7, none⟩ = some (.int .i64 (rd_T70 xs i).f1) ∧ (rd_T70 xs i).f0.f6.length ≤ c6 ∧ Kd.string.C w A6 (rd_T70 xs i).f0.f6.length (rd_T70 xs i).f0.f6 := by
  obtain ⟨ad, c, e, _, hK, hc0⟩ := Kd.C_get h z70 i h0 h1
  have hc : ∀ j u, c[j]? = some u → w.cell? (ad.add (i.toNat * 8 + j)) = some u := hc0
  obtain ⟨A6, c6, rfl, l6, g6⟩ := k70_open hK
  exact ⟨ad, A6, c6, e, hc 0 _ rfl, by rw [← add_field _ _ 1 (by omega)]; exact hc 1 _ rfl, by rw [← add_field _ _ 2 (by omega)]; exact hc 2 _ rfl, by rw [← add_field _ _ 3 (by omega)]; exact hc 3 _ rfl, by rw [← add_field _ _ 4 (by omega)]; exact hc 4 _ rfl, by rw [← add_field _ _ 5 (by omega)]; exact hc 5 _ rfl, by rw [← add_field _ _ 6 (by omega)]; exact hc 6 _ rfl, by rw [← add_field _ _ 7 (by omega)]; exact hc 7 _ rfl, l6, g6⟩
structure S40 where
  f0 : Int
  f1 : ByteArray
def z40 : S40 := ⟨(0 : Int), (⟨#[]⟩ : ByteArray)⟩
def k40 : Kd S40 := Kd.iso (Kd.pair (Kd.int .i64) Kd.string) (fun x : S40 => (x.f0, x.f1))
theorem k40_open {w : World} {x : S40} {cs : List Value} (h : k40.K w x cs) : cs = [.int .i64 x.f0, .string x.f1] := by
  obtain ⟨_, _, rfl, rfl, rfl⟩ := h
  exact rfl
theorem k40_mkM (w : World) (base : Nat) (ok : Nat → Prop) (x : S40)  : k40.M w base ok x [.int .i64 x.f0, .string x.f1] := ⟨[.int .i64 x.f0], [.string x.f1], rfl, rfl, rfl⟩
def rd_T40 (xs : List S40) (i : Int) : S40 := xs.getD i.toNat z40
theorem at_T40 {w : World} {A : Option Addr} {n : Nat} {xs : List S40} (h : Kd.C k40 w A n xs) (i : Int) (h0 : 0 ≤ i) (h1 : i < n) : ∃ ad , A = some ad ∧ w.cell? (ad.add (i.toNat * 2)) = some (.int .i64 (rd_T40 xs i).f0) ∧ w.cell? ⟨(ad.add (i.toNat * 2)).block, (ad.add (i.toNat * 2)).off + 1, none⟩ = some (.string (rd_T40 xs i).f1) := by
  obtain ⟨ad, c, e, _, hK, hc0⟩ := Kd.C_get h z40 i h0 h1
  have hc : ∀ j u, c[j]? = some u → w.cell? (ad.add (i.toNat * 2 + j)) = some u := hc0
  obtain rfl := k40_open hK
  exact ⟨ad, e, hc 0 _ rfl, by rw [← add_field _ _ 1 (by omega)]; exact hc 1 _ rfl⟩
structure S53 where
  f0 : ByteArray
  f1 : Int
  f2 : Int
  f3 : Int
  f4 : Bool
  f5 : Bool
  f6 : (List ByteArray)
def z53 : S53 := ⟨(⟨#[]⟩ : ByteArray), (0 : Int), (0 : Int), (0 : Int), false, false, ([] : List ByteArray)⟩
structure S75 where
  f0 : S53
  f1 : Int
def z75 : S75 := ⟨z53, (0 : Int)⟩
theorem ne_nil_bool (l : List UInt8) : (l != []) = !l.isEmpty := by cases l <;> rfl
end Go.Proofs.YtcoaajkhfgakgaaGreatDoor.Pr
end

section
namespace Go.Proofs.YtcoaajkhfgakgaaGreatDoor.Pr
open Go.RowKit Go.Shelf Go.Proofs.YtcoaajkhfgakgaaGreatDoorW.PrintWords Go.Proofs.YtcoaajkhfgakgaaGreatDoorW.PrintLast Go.Proofs.YtcoaajkhfgakgaaGreatDoorW.PrintMore
set_option linter.unusedVariables false
set_option linter.unusedSimpArgs false
theorem var_below {w W : World} {n : String} {cs : Array Value} (hb : Below w.heap.size w W) (h : w.var? Tryz.prog n = some cs) : W.var? Tryz.prog n = some cs := by
  unfold World.var? at h ⊢
  cases hg : Tryz.prog.globalNamed n with
  | none => simp [hg] at h
  | some g =>
    simp only [hg, Option.bind_some] at h ⊢
    have hlt : g < w.heap.size := by
      rcases Nat.lt_or_ge g w.heap.size with h' | h'
      · exact h'
      · simp [Array.getElem?_eq_none h'] at h
    rw [hb.block g hlt]
    exact h
structure GL (w : World) : Prop where
  stx : ∃ tp p, w.var? Tryz.prog "strconv.ErrSyntax" = some #[.iface tp p]
  rng : ∃ tp p, w.var? Tryz.prog "strconv.ErrRange" = some #[.iface tp p]
  pow : Lib.TabIs Tryz.prog w "internal/strconv.uint64pow10" .u64 Lib.pow10Tab
theorem GL.below {w W : World} (h : GL w) (hb : Below w.heap.size w W) : GL W := by
  refine ⟨?_, ?_, ?_⟩
  · obtain ⟨tp, p, h1⟩ := h.stx
    exact ⟨tp, p, var_below hb h1⟩
  · obtain ⟨tp, p, h1⟩ := h.rng
    exact ⟨tp, p, var_below hb h1⟩
  · exact var_below hb h.pow
theorem strconv_Atoi_any (s : ByteArray) (hs : s.size ≤ 140737488351232) (w : World) (hG : GL w) :
    Calls Tryz.prog 121 #[.string s] w fun e w' => ∃ (m : Int) (er : Value), e = .returned (.tuple #[.int .i64 m, er]) ∧ Below w.heap.size w w' ∧
      ((Lib.atoiAll s.data.toList = .ok m ∧ er = .nilIface) ∨ ((∀ v, Lib.atoiAll s.data.toList ≠ .ok v) ∧ ∃ a, er = .iface 207 (.pointer (some a)))) := by
  rcases hv : Lib.atoiAll s.data.toList with v | _ | _
  · refine (Tryz.strconv_Atoi_ok s (by omega) v hv w).mono ?_
    rintro e w' ⟨rfl, hw⟩
    refine ⟨v, _, rfl, ?_, .inl ⟨rfl, rfl⟩⟩
    rcases hw with rfl | ⟨t, rfl⟩
    · exact Below.refl _ _
    · exact bytes_below (Below.refl _ _) (Nat.le_refl _) _ _
  · obtain ⟨tp, p, h1⟩ := hG.stx
    have hc : Calls Tryz.prog 121 #[.string s] w fun e w' => ∃ N, e = .returned (.tuple #[.int .i64 0, .iface 207 (.pointer (some ⟨N, 0, none⟩))]) ∧ w.heap.size ≤ N ∧ w'.heap[N]? = some (.cells #[.string ⟨#[65, 116, 111, 105]⟩, .string s, .iface tp p] 223 (0, 0)) ∧ Below w.heap.size w w' :=
      Any.strconv_Atoi_syntax_var Tryz.laysC172 s (by omega) hv tp p w h1
    refine hc.mono ?_
    rintro e w' ⟨N, rfl, _, _, hb⟩
    exact ⟨_, _, rfl, hb, .inr ⟨(fun _ h => by cases h), _, rfl⟩⟩
  · obtain ⟨tp, p, h1⟩ := hG.rng
    refine (Tryz.strconv_Atoi_range_var s (by omega) hv tp p w h1).mono ?_
    rintro e w' ⟨N, rfl, _, _, hb⟩
    exact ⟨_, _, rfl, hb, .inr ⟨(fun _ h => by cases h), _, rfl⟩⟩
end Go.Proofs.YtcoaajkhfgakgaaGreatDoor.Pr
end

section
namespace Go.Proofs.YtcoaajkhfgakgaaGreatDoor.Pr
open Go.RowKit Go.Proofs.YtcoaajkhfgakgaaGreatDoorW.PrintWords Go.Proofs.YtcoaajkhfgakgaaGreatDoorW.PrintLast Go.Proofs.YtcoaajkhfgakgaaGreatDoorW.PrintMore
attribute [local go_sem] max2_int min2_int max_two min_two max_three min_three max_four min_four   -- for this text's walks alone
set_option linter.unusedVariables false
set_option linter.unusedSimpArgs false
def sign_Number.l0 : Nat → ByteArray → Int → Int → Int → Option (Int × Bool)
  | 0, _, _, _, _ => none
  | k + 1, x0, x4, x7, x8 => if x8 < x7 then (if 0 ≤ x8 then (if x8 < (x0.size : Int) then (if (bt x0 x8) < 48 then (some (0, false)) else (if (bt x0 x8) > 57 then (some (0, false)) else (sign_Number.l0 k x0 (mn (wrap64 ((wrap64 (10 * x4)) + (((bt x0 x8) - 48) % 256))) 2147483648) x7 (wrap64 (x8 + 1))))) else (none)) else (none)) else (some (x4, (x0.toList != ([] : List UInt8))))
def sign_Number.f (k : Nat) (a0 : ByteArray) : Option (Int × Bool) := sign_Number.l0 k a0 0 (a0.size : Int) 0
theorem sign_Number.mono_l : ∀ k, (∀ y0 y1 y2 y3, LeO (sign_Number.l0 k y0 y1 y2 y3) (sign_Number.l0 (k + 1) y0 y1 y2 y3))
  | 0 => fun _ _ _ _ r h => by simp [sign_Number.l0] at h
  | k + 1 => by
    have ih0 := sign_Number.mono_l k
    · intro y0 y1 y2 y3
      unfold sign_Number.l0
      repeat' first
      | (with_reducible exact ih0 _ _ _ _)
      | (with_reducible exact LeO.refl _)
      | (with_reducible exact LeO.none _)
      | (with_reducible refine LeO.ite ?_ ?_)
      | (with_reducible refine LeO.bind ?_ (fun _ => ?_))
      | exact ih0 _ _ _ _
      | exact LeO.none _
      | refine LeO.ite ?_ ?_
      | refine LeO.bind ?_ (fun _ => ?_)
theorem sign_Number.mono : ∀ a0 k, LeO (sign_Number.f k a0) (sign_Number.f (k + 1) a0) := by
  intro a0 k
  have ih0 := sign_Number.mono_l k
  unfold sign_Number.f
  repeat' first
      | (with_reducible exact ih0 _ _ _ _)
      | (with_reducible exact LeO.refl _)
      | (with_reducible exact LeO.none _)
      | (with_reducible refine LeO.ite ?_ ?_)
      | (with_reducible refine LeO.bind ?_ (fun _ => ?_))
      | exact ih0 _ _ _ _
      | exact LeO.none _
      | refine LeO.ite ?_ ?_
      | refine LeO.bind ?_ (fun _ => ?_)
set_option maxHeartbeats 8000000 in
set_option maxRecDepth 100000 in
theorem sign_Number.calls (k : Nat) (a0 : ByteArray) (r1 : Int) (r2 : Bool) (w : World) (h : sign_Number.f k a0 = some (r1, r2)) :
    Calls Tryz.prog 82 #[.string a0] w fun e w' => e = .returned (.tuple #[.int .i64 r1, .bool r2]) ∧ Below w.heap.size w w' := by
  have HB := Aside0.mk (Below.refl w.heap.size w)
  have H : (sign_Number.l0 k a0 0 (a0.size : Int) 0) = some (r1, r2) := h
  clear h
  have H' := Aside0.mk H
  clear H
  go_enter Tryz.func82, Tryz.ntmps82
  go_wp2
  go_loopg [4, 8] k (fun kq v4 v8 w' => ∃ (x4_1 : Int) (x8_1 : Int), v4 = .int .i64 x4_1 ∧ v8 = .int .i64 x8_1 ∧ Aside0 (sign_Number.l0 kq a0 x4_1 (a0.size : Int) x8_1 = some (r1, r2)) ∧ Aside0 (kq ≤ k) ∧ Aside0 (Below w.heap.size w w'))
  case atStart => exact ⟨(0), (0), (by first | rfl | (simp; done) | (simp [*]; done)), (by first | rfl | (simp; done) | (simp [*]; done)), H', ⟨Nat.le_refl _⟩, ⟨by repeat (first | (with_reducible first | exact HB.out | apply below_alloc | apply pw_below_drewN | apply below_drew1) | exact HB.out)⟩⟩
  case round =>
    clear H'
    obtain ⟨x4_1, x8_1, rfl, rfl, HA, HK1, HB⟩ := hrel
    cases gk with
    | zero => exact absurd HA.out (by simp [sign_Number.l0])
    | succ k1 =>
      have H := HA.out
      clear HA
      simp only [sign_Number.l0] at H
      by_cases c2 : x8_1 < (a0.size : Int)
      · rw [if_pos c2] at H
        have c2b0 : decide (x8_1 < (a0.size : Int)) = true := decide_eq_true c2
        clear c2
        by_cases c3 : 0 ≤ x8_1
        · rw [if_pos c3] at H
          have c3b0 : decide (0 ≤ x8_1) = true := decide_eq_true c3
          clear c3
          by_cases c4 : x8_1 < (a0.size : Int)
          · rw [if_pos c4] at H
            have c4b0 : decide (x8_1 < (a0.size : Int)) = true := decide_eq_true c4
            clear c4
            by_cases c6 : (bt a0 x8_1) < 48
            · rw [if_pos c6] at H
              have c6b0 : decide ((bt a0 x8_1) < 48) = true := decide_eq_true c6
              clear c6
              simp only [Option.some.injEq, Prod.mk.injEq] at H
              obtain ⟨rfl, rfl⟩ := H
              have p5 : 0 ≤ (x8_1 : Int) := of_decide_eq_true (by first | (with_reducible assumption) | assumption)
              have q5 : x8_1 < (a0.size : Int) := of_decide_eq_true (by first | (with_reducible assumption) | assumption)
              have hx5 := bt_at a0 x8_1
              replace p5 := eq_true p5
              replace q5 := eq_true q5
              go_wp2
              go_ret2
              exact ⟨by first | rfl | (simp [errW_none, errW_some] <;> rfl) | (simp [*, errW_none, errW_some] <;> rfl) | (simp only [ne_nil_bool]; rfl), by repeat (first | (with_reducible first | exact HB.out | apply below_alloc | apply pw_below_drewN | apply below_drew1) | exact HB.out)⟩
            · rw [if_neg c6] at H
              have c6b0 : decide ((bt a0 x8_1) < 48) = false := decide_eq_false c6
              clear c6
              by_cases c8 : (bt a0 x8_1) > 57
              · rw [if_pos c8] at H
                have c8b0 : decide (57 < (bt a0 x8_1)) = true := decide_eq_true c8
                clear c8
                simp only [Option.some.injEq, Prod.mk.injEq] at H
                obtain ⟨rfl, rfl⟩ := H
                have p5 : 0 ≤ (x8_1 : Int) := of_decide_eq_true (by first | (with_reducible assumption) | assumption)
                have q5 : x8_1 < (a0.size : Int) := of_decide_eq_true (by first | (with_reducible assumption) | assumption)
                have hx5 := bt_at a0 x8_1
                replace p5 := eq_true p5
                replace q5 := eq_true q5
                have p7 : 0 ≤ (x8_1 : Int) := of_decide_eq_true (by first | (with_reducible assumption) | assumption)
                have q7 : x8_1 < (a0.size : Int) := of_decide_eq_true (by first | (with_reducible assumption) | assumption)
                have hx7 := bt_at a0 x8_1
                replace p7 := eq_true p7
                replace q7 := eq_true q7
                go_wp2
                go_ret2
                exact ⟨by first | rfl | (simp [errW_none, errW_some] <;> rfl) | (simp [*, errW_none, errW_some] <;> rfl) | (simp only [ne_nil_bool]; rfl), by repeat (first | (with_reducible first | exact HB.out | apply below_alloc | apply pw_below_drewN | apply below_drew1) | exact HB.out)⟩
              · rw [if_neg c8] at H
                have c8b0 : decide (57 < (bt a0 x8_1)) = false := decide_eq_false c8
                clear c8
                obtain ⟨ji10, hji10⟩ : ∃ j_ : Int, (mn (wrap64 ((wrap64 (10 * x4_1)) + (((bt a0 x8_1) - 48) % 256))) 2147483648) = j_ := ⟨_, rfl⟩
                replace H : (sign_Number.l0 k1 a0 ji10 (a0.size : Int) (wrap64 (x8_1 + 1))) = some (r1, r2) := by first | (rw [hji10] at H; exact H) | (simp only [hji10] at H ⊢; exact H)
                have hji10_ : (if 2147483648 < (wrap64 ((wrap64 (10 * x4_1)) + (((bt a0 x8_1) - 48) % 256))) then 2147483648 else (wrap64 ((wrap64 (10 * x4_1)) + (((bt a0 x8_1) - 48) % 256)))) = ji10 := hji10
                have H' := Aside0.mk H
                clear H
                have p5 : 0 ≤ (x8_1 : Int) := of_decide_eq_true (by first | (with_reducible assumption) | assumption)
                have q5 : x8_1 < (a0.size : Int) := of_decide_eq_true (by first | (with_reducible assumption) | assumption)
                have hx5 := bt_at a0 x8_1
                replace p5 := eq_true p5
                replace q5 := eq_true q5
                have p7 : 0 ≤ (x8_1 : Int) := of_decide_eq_true (by first | (with_reducible assumption) | assumption)
                have q7 : x8_1 < (a0.size : Int) := of_decide_eq_true (by first | (with_reducible assumption) | assumption)
                have hx7 := bt_at a0 x8_1
                replace p7 := eq_true p7
                replace q7 := eq_true q7
                have p9 : 0 ≤ (x8_1 : Int) := of_decide_eq_true (by first | (with_reducible assumption) | assumption)
                have q9 : x8_1 < (a0.size : Int) := of_decide_eq_true (by first | (with_reducible assumption) | assumption)
                have hx9 := bt_at a0 x8_1
                replace p9 := eq_true p9
                replace q9 := eq_true q9
                go_wp2
                go_roundg k1
                case measure => have := HK1.out; omega
                case rel => exact ⟨(ji10), (wrap64 (x8_1 + 1)), (by first | rfl | (simp; done) | (simp only [← hji10] <;> (first | rfl | simp)) | (simp [*]; done)), (by first | rfl | (simp; done) | (simp [*]; done)), H', ⟨by have := HK1.out; omega⟩, ⟨by repeat (first | (with_reducible first | exact HB.out | apply below_alloc | apply pw_below_drewN | apply below_drew1) | exact HB.out)⟩⟩
          · rw [if_neg c4] at H
            exact absurd H (by simp)
        · rw [if_neg c3] at H
          exact absurd H (by simp)
      · rw [if_neg c2] at H
        have c2b0 : decide (x8_1 < (a0.size : Int)) = false := decide_eq_false c2
        clear c2
        simp only [Option.some.injEq, Prod.mk.injEq] at H
        obtain ⟨rfl, rfl⟩ := H
        go_wp2
        go_ret2
        exact ⟨by first | rfl | (simp [errW_none, errW_some] <;> rfl) | (simp [*, errW_none, errW_some] <;> rfl) | (simp only [ne_nil_bool]; rfl), by repeat (first | (with_reducible first | exact HB.out | apply below_alloc | apply pw_below_drewN | apply below_drew1) | exact HB.out)⟩
end Go.Proofs.YtcoaajkhfgakgaaGreatDoor.Pr
end

section
namespace Go.Proofs.YtcoaajkhfgakgaaGreatDoor.Pr
open Go.RowKit Go.Proofs.YtcoaajkhfgakgaaGreatDoorW.PrintWords Go.Proofs.YtcoaajkhfgakgaaGreatDoorW.PrintLast Go.Proofs.YtcoaajkhfgakgaaGreatDoorW.PrintMore
attribute [local go_sem] max2_int min2_int max_two min_two max_three min_three max_four min_four   -- for this text's walks alone
set_option linter.unusedVariables false
set_option linter.unusedSimpArgs false
def sign_letter.f (a0 : Int) : Option (Bool) := if a0 ≥ 97 then (if a0 ≤ 122 then (some true) else (if a0 ≥ 65 then (if a0 ≤ 90 then (some true) else (if a0 ≥ 48 then (some (decide (a0 ≤ 57))) else (some false))) else (if a0 ≥ 48 then (some (decide (a0 ≤ 57))) else (some false)))) else (if a0 ≥ 65 then (if a0 ≤ 90 then (some true) else (if a0 ≥ 48 then (some (decide (a0 ≤ 57))) else (some false))) else (if a0 ≥ 48 then (some (decide (a0 ≤ 57))) else (some false)))
set_option maxHeartbeats 8000000 in
set_option maxRecDepth 100000 in
theorem sign_letter.calls (a0 : Int) (r : Bool) (w : World) (h : sign_letter.f a0 = some r) :
    Calls Tryz.prog 113 #[.int .u8 a0] w fun e w' => e = .returned (.bool r) ∧ Drawn0 w w' := by
  have H : (if a0 ≥ 97 then (if a0 ≤ 122 then (some true) else (if a0 ≥ 65 then (if a0 ≤ 90 then (some true) else (if a0 ≥ 48 then (some (decide (a0 ≤ 57))) else (some false))) else (if a0 ≥ 48 then (some (decide (a0 ≤ 57))) else (some false)))) else (if a0 ≥ 65 then (if a0 ≤ 90 then (some true) else (if a0 ≥ 48 then (some (decide (a0 ≤ 57))) else (some false))) else (if a0 ≥ 48 then (some (decide (a0 ≤ 57))) else (some false)))) = some r := h
  clear h
  by_cases c2 : a0 ≥ 97
  · rw [if_pos c2] at H
    have c2b0 : decide (97 ≤ a0) = true := decide_eq_true c2
    clear c2
    by_cases c3 : a0 ≤ 122
    · rw [if_pos c3] at H
      have c3b0 : decide (a0 ≤ 122) = true := decide_eq_true c3
      clear c3
      obtain rfl := Option.some.inj H
      go_enter Tryz.func113, Tryz.ntmps113
      go_wp2
      go_ret
      exact ⟨by first | rfl | (simp; done) | (simp [*]; done) | (simp only [ne_nil_bool]; rfl), by repeat (first | exact Drawn0.refl _ | apply Drawn0.step)⟩
    · rw [if_neg c3] at H
      have c3b0 : decide (a0 ≤ 122) = false := decide_eq_false c3
      clear c3
      by_cases c4 : a0 ≥ 65
      · rw [if_pos c4] at H
        have c4b0 : decide (65 ≤ a0) = true := decide_eq_true c4
        clear c4
        by_cases c5 : a0 ≤ 90
        · rw [if_pos c5] at H
          have c5b0 : decide (a0 ≤ 90) = true := decide_eq_true c5
          clear c5
          obtain rfl := Option.some.inj H
          go_enter Tryz.func113, Tryz.ntmps113
          go_wp2
          go_ret
          exact ⟨by first | rfl | (simp; done) | (simp [*]; done) | (simp only [ne_nil_bool]; rfl), by repeat (first | exact Drawn0.refl _ | apply Drawn0.step)⟩
        · rw [if_neg c5] at H
          have c5b0 : decide (a0 ≤ 90) = false := decide_eq_false c5
          clear c5
          by_cases c6 : a0 ≥ 48
          · rw [if_pos c6] at H
            have c6b0 : decide (48 ≤ a0) = true := decide_eq_true c6
            clear c6
            obtain rfl := Option.some.inj H
            go_enter Tryz.func113, Tryz.ntmps113
            go_wp2
            go_ret
            exact ⟨by first | rfl | (simp; done) | (simp [*]; done) | (simp only [ne_nil_bool]; rfl), by repeat (first | exact Drawn0.refl _ | apply Drawn0.step)⟩
          · rw [if_neg c6] at H
            have c6b0 : decide (48 ≤ a0) = false := decide_eq_false c6
            clear c6
            obtain rfl := Option.some.inj H
            go_enter Tryz.func113, Tryz.ntmps113
            go_wp2
            go_ret
            exact ⟨by first | rfl | (simp; done) | (simp [*]; done) | (simp only [ne_nil_bool]; rfl), by repeat (first | exact Drawn0.refl _ | apply Drawn0.step)⟩
      · rw [if_neg c4] at H
        have c4b0 : decide (65 ≤ a0) = false := decide_eq_false c4
        clear c4
        by_cases c7 : a0 ≥ 48
        · rw [if_pos c7] at H
          have c7b0 : decide (48 ≤ a0) = true := decide_eq_true c7
          clear c7
          obtain rfl := Option.some.inj H
          go_enter Tryz.func113, Tryz.ntmps113
          go_wp2
          go_ret
          exact ⟨by first | rfl | (simp; done) | (simp [*]; done) | (simp only [ne_nil_bool]; rfl), by repeat (first | exact Drawn0.refl _ | apply Drawn0.step)⟩
        · rw [if_neg c7] at H
          have c7b0 : decide (48 ≤ a0) = false := decide_eq_false c7
          clear c7
          obtain rfl := Option.some.inj H
          go_enter Tryz.func113, Tryz.ntmps113
          go_wp2
          go_ret
          exact ⟨by first | rfl | (simp; done) | (simp [*]; done) | (simp only [ne_nil_bool]; rfl), by repeat (first | exact Drawn0.refl _ | apply Drawn0.step)⟩
  · rw [if_neg c2] at H
    have c2b0 : decide (97 ≤ a0) = false := decide_eq_false c2
    clear c2
    by_cases c8 : a0 ≥ 65
    · rw [if_pos c8] at H
      have c8b0 : decide (65 ≤ a0) = true := decide_eq_true c8
      clear c8
      by_cases c9 : a0 ≤ 90
      · rw [if_pos c9] at H
        have c9b0 : decide (a0 ≤ 90) = true := decide_eq_true c9
        clear c9
        obtain rfl := Option.some.inj H
        go_enter Tryz.func113, Tryz.ntmps113
        go_wp2
        go_ret
        exact ⟨by first | rfl | (simp; done) | (simp [*]; done) | (simp only [ne_nil_bool]; rfl), by repeat (first | exact Drawn0.refl _ | apply Drawn0.step)⟩
      · rw [if_neg c9] at H
        have c9b0 : decide (a0 ≤ 90) = false := decide_eq_false c9
        clear c9
        by_cases c10 : a0 ≥ 48
        · rw [if_pos c10] at H
          have c10b0 : decide (48 ≤ a0) = true := decide_eq_true c10
          clear c10
          obtain rfl := Option.some.inj H
          go_enter Tryz.func113, Tryz.ntmps113
          go_wp2
          go_ret
          exact ⟨by first | rfl | (simp; done) | (simp [*]; done) | (simp only [ne_nil_bool]; rfl), by repeat (first | exact Drawn0.refl _ | apply Drawn0.step)⟩
        · rw [if_neg c10] at H
          have c10b0 : decide (48 ≤ a0) = false := decide_eq_false c10
          clear c10
          obtain rfl := Option.some.inj H
          go_enter Tryz.func113, Tryz.ntmps113
          go_wp2
          go_ret
          exact ⟨by first | rfl | (simp; done) | (simp [*]; done) | (simp only [ne_nil_bool]; rfl), by repeat (first | exact Drawn0.refl _ | apply Drawn0.step)⟩
    · rw [if_neg c8] at H
      have c8b0 : decide (65 ≤ a0) = false := decide_eq_false c8
      clear c8
      by_cases c11 : a0 ≥ 48
      · rw [if_pos c11] at H
        have c11b0 : decide (48 ≤ a0) = true := decide_eq_true c11
        clear c11
        obtain rfl := Option.some.inj H
        go_enter Tryz.func113, Tryz.ntmps113
        go_wp2
        go_ret
        exact ⟨by first | rfl | (simp; done) | (simp [*]; done) | (simp only [ne_nil_bool]; rfl), by repeat (first | exact Drawn0.refl _ | apply Drawn0.step)⟩
      · rw [if_neg c11] at H
        have c11b0 : decide (48 ≤ a0) = false := decide_eq_false c11
        clear c11
        obtain rfl := Option.some.inj H
        go_enter Tryz.func113, Tryz.ntmps113
        go_wp2
        go_ret
        exact ⟨by first | rfl | (simp; done) | (simp [*]; done) | (simp only [ne_nil_bool]; rfl), by repeat (first | exact Drawn0.refl _ | apply Drawn0.step)⟩
end Go.Proofs.YtcoaajkhfgakgaaGreatDoor.Pr
end

section
namespace Go.Proofs.YtcoaajkhfgakgaaGreatDoor.Pr
open Go.RowKit Go.Proofs.YtcoaajkhfgakgaaGreatDoorW.PrintWords Go.Proofs.YtcoaajkhfgakgaaGreatDoorW.PrintLast Go.Proofs.YtcoaajkhfgakgaaGreatDoorW.PrintMore
set_option linter.unusedVariables false
set_option linter.unusedSimpArgs false
def strings_IndexByte.f (a0 : ByteArray) (a1 : Int) : Option Int := some (Lib.indexByte a0.data.toList a1.toNat.toUInt8)
theorem strings_IndexByte.calls (a0 : ByteArray) (a1 : Int) (r : Int) (w : World) (h : strings_IndexByte.f a0 a1 = some r) :
    Calls Tryz.prog 108 #[.string a0, .int .u8 a1] w fun e w' => e = .returned (.int .i64 r) ∧ Drawn0 w w' := by
  injection h with h
  subst h
  refine (Tryz.strings_IndexByte a0 a1 w).mono ?_
  rintro e w' ⟨rfl, rfl⟩
  exact ⟨rfl, Drawn0.refl _⟩
end Go.Proofs.YtcoaajkhfgakgaaGreatDoor.Pr
end

section
namespace Go.Proofs.YtcoaajkhfgakgaaGreatDoor.Pr
open Go.RowKit Go.Proofs.YtcoaajkhfgakgaaGreatDoorW.PrintWords Go.Proofs.YtcoaajkhfgakgaaGreatDoorW.PrintLast Go.Proofs.YtcoaajkhfgakgaaGreatDoorW.PrintMore
attribute [local go_sem] max2_int min2_int max_two min_two max_three min_three max_four min_four   -- for this text's walks alone
set_option linter.unusedVariables false
set_option linter.unusedSimpArgs false
def sign_Token.l0 : Nat → ByteArray → Int → Int → Option (Bool)
  | 0, _, _, _ => none
  | k + 1, x0, x5, x6 => if x6 < x5 then (if 0 ≤ x6 then (if x6 < (x0.size : Int) then ((sign_letter.f (bt x0 x6)).bind fun t742 => (if t742 = true then (sign_Token.l0 k x0 x5 (wrap64 (x6 + 1))) else ((strings_IndexByte.f (⟨#[33, 35, 36, 37, 38, 39, 42, 43, 45, 46, 94, 95, 124, 126, 96]⟩ : ByteArray) (bt x0 x6)).bind fun t743 => (if t743 < 0 then (some false) else (sign_Token.l0 k x0 x5 (wrap64 (x6 + 1))))))) else (none)) else (none)) else (some (x0.toList != ([] : List UInt8)))
def sign_Token.f (k : Nat) (a0 : ByteArray) : Option (Bool) := sign_Token.l0 k a0 (a0.size : Int) 0
theorem sign_Token.mono_l : ∀ k, (∀ y0 y1 y2, LeO (sign_Token.l0 k y0 y1 y2) (sign_Token.l0 (k + 1) y0 y1 y2))
  | 0 => fun _ _ _ r h => by simp [sign_Token.l0] at h
  | k + 1 => by
    have ih0 := sign_Token.mono_l k
    · intro y0 y1 y2
      unfold sign_Token.l0
      repeat' first
      | (with_reducible exact ih0 _ _ _)
      | (with_reducible exact LeO.refl _)
      | (with_reducible exact LeO.none _)
      | (with_reducible refine LeO.ite ?_ ?_)
      | (with_reducible refine LeO.bind ?_ (fun _ => ?_))
      | exact ih0 _ _ _
      | exact LeO.none _
      | refine LeO.ite ?_ ?_
      | refine LeO.bind ?_ (fun _ => ?_)
theorem sign_Token.mono : ∀ a0 k, LeO (sign_Token.f k a0) (sign_Token.f (k + 1) a0) := by
  intro a0 k
  have ih0 := sign_Token.mono_l k
  unfold sign_Token.f
  repeat' first
      | (with_reducible exact ih0 _ _ _)
      | (with_reducible exact LeO.refl _)
      | (with_reducible exact LeO.none _)
      | (with_reducible refine LeO.ite ?_ ?_)
      | (with_reducible refine LeO.bind ?_ (fun _ => ?_))
      | exact ih0 _ _ _
      | exact LeO.none _
      | refine LeO.ite ?_ ?_
      | refine LeO.bind ?_ (fun _ => ?_)
set_option maxHeartbeats 8000000 in
set_option maxRecDepth 100000 in
theorem sign_Token.calls (k : Nat) (a0 : ByteArray) (r : Bool) (w : World) (h : sign_Token.f k a0 = some r) :
    Calls Tryz.prog 87 #[.string a0] w fun e w' => e = .returned (.bool r) ∧ Drawn0 w w' := by
  have H : (sign_Token.l0 k a0 (a0.size : Int) 0) = some r := h
  clear h
  have H' := Aside0.mk H
  clear H
  go_enter Tryz.func87, Tryz.ntmps87
  go_wp2
  go_loopg [6] k (fun kq v6 w' => ∃ (x6_1 : Int), v6 = .int .i64 x6_1 ∧ Aside0 (sign_Token.l0 kq a0 (a0.size : Int) x6_1 = some r) ∧ Aside0 (kq ≤ k) ∧ Drawn0 w w')
  case atStart => exact ⟨(0), (by first | rfl | (simp; done) | (simp [*]; done)), H', ⟨Nat.le_refl _⟩, by repeat (first | exact Drawn0.refl _ | apply Drawn0.step)⟩
  case round =>
    clear H'
    obtain ⟨x6_1, rfl, HA, HK1, ⟨m1, rfl⟩⟩ := hrel
    cases gk with
    | zero => exact absurd HA.out (by simp [sign_Token.l0])
    | succ k1 =>
      have H := HA.out
      clear HA
      simp only [sign_Token.l0] at H
      by_cases c2 : x6_1 < (a0.size : Int)
      · rw [if_pos c2] at H
        have c2b0 : decide (x6_1 < (a0.size : Int)) = true := decide_eq_true c2
        clear c2
        by_cases c3 : 0 ≤ x6_1
        · rw [if_pos c3] at H
          have c3b0 : decide (0 ≤ x6_1) = true := decide_eq_true c3
          clear c3
          by_cases c4 : x6_1 < (a0.size : Int)
          · rw [if_pos c4] at H
            have c4b0 : decide (x6_1 < (a0.size : Int)) = true := decide_eq_true c4
            clear c4
            replace H := Option.bind_eq_some_iff.mp H
            obtain ⟨t742, A60, H⟩ := H
            replace H : (if t742 = true then (sign_Token.l0 k1 a0 (a0.size : Int) (wrap64 (x6_1 + 1))) else ((strings_IndexByte.f (⟨#[33, 35, 36, 37, 38, 39, 42, 43, 45, 46, 94, 95, 124, 126, 96]⟩ : ByteArray) (bt a0 x6_1)).bind fun t743 => (if t743 < 0 then (some false) else (sign_Token.l0 k1 a0 (a0.size : Int) (wrap64 (x6_1 + 1)))))) = some r := H
            have A6 := Aside0.mk A60
            clear A60
            by_cases c7 : t742 = true
            · subst c7
              have H1 : (sign_Token.l0 k1 a0 (a0.size : Int) (wrap64 (x6_1 + 1))) = some r := by rw [if_pos rfl] at H; exact H
              clear H
              have H := H1
              clear H1
              have H' := Aside0.mk H
              clear H
              have p5 : 0 ≤ (x6_1 : Int) := of_decide_eq_true (by first | (with_reducible assumption) | assumption)
              have q5 : x6_1 < (a0.size : Int) := of_decide_eq_true (by first | (with_reducible assumption) | assumption)
              have hx5 := bt_at a0 x6_1
              replace p5 := eq_true p5
              replace q5 := eq_true q5
              go_wp2_with (first | ((with_reducible refine gate_callee (f := 113) rfl ?_); refine goesL_ (some 12) rfl rfl Tryz.func113 (by kernel_rfl) rfl #[.int .u8 (bt a0 x6_1)] rfl (by (try simp only [List.map_toArray, List.map_cons, List.map_nil]); first | done | rfl | (simp only [List.length_drop, List.length_take]; rfl)) ?_; (with_reducible refine (sign_letter.calls (bt a0 x6_1) true _ A6.out).mono ?_); rintro e w' ⟨rfl, ⟨nd, rfl⟩⟩; refine ⟨_, rfl, ?_⟩))
              go_roundg k1
              case measure => have := HK1.out; omega
              case rel => exact ⟨(wrap64 (x6_1 + 1)), (by first | rfl | (simp; done) | (simp [*]; done)), H', ⟨by have := HK1.out; omega⟩, by repeat (first | exact Drawn0.refl _ | apply Drawn0.step)⟩
            · replace c7 := Bool.eq_false_iff.mpr c7
              subst c7
              have H1 : ((strings_IndexByte.f (⟨#[33, 35, 36, 37, 38, 39, 42, 43, 45, 46, 94, 95, 124, 126, 96]⟩ : ByteArray) (bt a0 x6_1)).bind fun t743 => (if t743 < 0 then (some false) else (sign_Token.l0 k1 a0 (a0.size : Int) (wrap64 (x6_1 + 1))))) = some r := by rw [if_neg (show ¬ (false = true) by decide)] at H; exact H
              clear H
              have H := H1
              clear H1
              replace H := Option.bind_eq_some_iff.mp H
              obtain ⟨t743, A90, H⟩ := H
              replace H : (if t743 < 0 then (some false) else (sign_Token.l0 k1 a0 (a0.size : Int) (wrap64 (x6_1 + 1)))) = some r := H
              have A9 := Aside0.mk A90
              clear A90
              by_cases c10 : t743 < 0
              · rw [if_pos c10] at H
                have c10b0 : decide (t743 < 0) = true := decide_eq_true c10
                clear c10
                obtain rfl := Option.some.inj H
                have p5 : 0 ≤ (x6_1 : Int) := of_decide_eq_true (by first | (with_reducible assumption) | assumption)
                have q5 : x6_1 < (a0.size : Int) := of_decide_eq_true (by first | (with_reducible assumption) | assumption)
                have hx5 := bt_at a0 x6_1
                replace p5 := eq_true p5
                replace q5 := eq_true q5
                go_wp2_with (first | ((with_reducible refine gate_callee (f := 113) rfl ?_); refine goesL_ (some 12) rfl rfl Tryz.func113 (by kernel_rfl) rfl #[.int .u8 (bt a0 x6_1)] rfl (by (try simp only [List.map_toArray, List.map_cons, List.map_nil]); first | done | rfl | (simp only [List.length_drop, List.length_take]; rfl)) ?_; (with_reducible refine (sign_letter.calls (bt a0 x6_1) false _ A6.out).mono ?_); rintro e w' ⟨rfl, ⟨nd, rfl⟩⟩; refine ⟨_, rfl, ?_⟩; have p8 : 0 ≤ (x6_1 : Int) := of_decide_eq_true (by first | (with_reducible assumption) | assumption); have q8 : x6_1 < (a0.size : Int) := of_decide_eq_true (by first | (with_reducible assumption) | assumption); have hx8 := bt_at a0 x6_1; replace p8 := eq_true p8; replace q8 := eq_true q8) | (go_at_call 108; (with_reducible refine (strings_IndexByte.calls (⟨#[33, 35, 36, 37, 38, 39, 42, 43, 45, 46, 94, 95, 124, 126, 96]⟩ : ByteArray) (bt a0 x6_1) t743 _ A9.out).mono ?_); rintro e w' ⟨rfl, ⟨nd, rfl⟩⟩))
                go_ret
                exact ⟨by first | rfl | (simp; done) | (simp [*]; done) | (simp only [ne_nil_bool]; rfl), by repeat (first | exact Drawn0.refl _ | apply Drawn0.step)⟩
              · rw [if_neg c10] at H
                have c10b0 : decide (t743 < 0) = false := decide_eq_false c10
                clear c10
                have H' := Aside0.mk H
                clear H
                have p5 : 0 ≤ (x6_1 : Int) := of_decide_eq_true (by first | (with_reducible assumption) | assumption)
                have q5 : x6_1 < (a0.size : Int) := of_decide_eq_true (by first | (with_reducible assumption) | assumption)
                have hx5 := bt_at a0 x6_1
                replace p5 := eq_true p5
                replace q5 := eq_true q5
                go_wp2_with (first | ((with_reducible refine gate_callee (f := 113) rfl ?_); refine goesL_ (some 12) rfl rfl Tryz.func113 (by kernel_rfl) rfl #[.int .u8 (bt a0 x6_1)] rfl (by (try simp only [List.map_toArray, List.map_cons, List.map_nil]); first | done | rfl | (simp only [List.length_drop, List.length_take]; rfl)) ?_; (with_reducible refine (sign_letter.calls (bt a0 x6_1) false _ A6.out).mono ?_); rintro e w' ⟨rfl, ⟨nd, rfl⟩⟩; refine ⟨_, rfl, ?_⟩; have p8 : 0 ≤ (x6_1 : Int) := of_decide_eq_true (by first | (with_reducible assumption) | assumption); have q8 : x6_1 < (a0.size : Int) := of_decide_eq_true (by first | (with_reducible assumption) | assumption); have hx8 := bt_at a0 x6_1; replace p8 := eq_true p8; replace q8 := eq_true q8) | (go_at_call 108; (with_reducible refine (strings_IndexByte.calls (⟨#[33, 35, 36, 37, 38, 39, 42, 43, 45, 46, 94, 95, 124, 126, 96]⟩ : ByteArray) (bt a0 x6_1) t743 _ A9.out).mono ?_); rintro e w' ⟨rfl, ⟨nd, rfl⟩⟩))
                go_roundg k1
                case measure => have := HK1.out; omega
                case rel => exact ⟨(wrap64 (x6_1 + 1)), (by first | rfl | (simp; done) | (simp [*]; done)), H', ⟨by have := HK1.out; omega⟩, by repeat (first | exact Drawn0.refl _ | apply Drawn0.step)⟩
          · rw [if_neg c4] at H
            exact absurd H (by simp)
        · rw [if_neg c3] at H
          exact absurd H (by simp)
      · rw [if_neg c2] at H
        have c2b0 : decide (x6_1 < (a0.size : Int)) = false := decide_eq_false c2
        clear c2
        obtain rfl := Option.some.inj H
        go_wp2
        go_ret
        exact ⟨by first | rfl | (simp; done) | (simp [*]; done) | (simp only [ne_nil_bool]; rfl), by repeat (first | exact Drawn0.refl _ | apply Drawn0.step)⟩
end Go.Proofs.YtcoaajkhfgakgaaGreatDoor.Pr
end

section
namespace Go.Proofs.YtcoaajkhfgakgaaGreatDoor.Pr
open Go.RowKit Go.Proofs.YtcoaajkhfgakgaaGreatDoorW.PrintWords Go.Proofs.YtcoaajkhfgakgaaGreatDoorW.PrintLast Go.Proofs.YtcoaajkhfgakgaaGreatDoorW.PrintMore
set_option linter.unusedVariables false
set_option linter.unusedSimpArgs false
def lowC (c : Int) : Int := if 65 ≤ c ∧ c ≤ 90 then c + 32 else c
def lowS (s : ByteArray) : ByteArray := strOfNums ((bytesOf s).map lowC)
def sign_Lower.f (a0 : ByteArray) : Option ByteArray := if a0.size ≤ 140737488351232 then some (lowS a0) else none
theorem lowC_great {c : Int} (h1 : 65 ≤ c) (h2 : c ≤ 90) : lowC c = c - 65 + 97 := by unfold lowC; rw [if_pos ⟨h1, h2⟩]; omega
theorem lowC_else {c : Int} (h : c < 65 ∨ 90 < c) : lowC c = c := by unfold lowC; rw [if_neg (by omega)]
set_option maxHeartbeats 1000000 in
theorem sign_Lower.calls (a0 : ByteArray) (r : ByteArray) (w : World) (h : sign_Lower.f a0 = some r) :
    Calls Tryz.prog 84 #[.string a0] w fun e w' => e = .returned (.string r) ∧ Below w.heap.size w w' := by
  have hs : a0.size ≤ 140737488351232 := by
    unfold sign_Lower.f at h
    split at h
    · assumption
    · cases h
  obtain rfl : lowS a0 = r := by
    unfold sign_Lower.f at h
    rw [if_pos hs] at h
    injection h
  clear h
  have kb := fun W => print_bytes (P := Tryz.prog) 9 111 5 Tryz.underlying9 Tryz.underlying111 Tryz.underlying5 a0 W
  have hb0 : Aside0 (Below w.heap.size w (Lib.bytesWorld w 5 a0)) := ⟨bytes_below (Below.refl _ _) (Nat.le_refl _) _ _⟩
  have hr0 : Aside0 (RowB (Lib.bytesWorld w 5 a0) w.heap.size (bytesOf a0)) := ⟨RowB.bytes w a0⟩
  have hlen : (bytesOf a0).length ≤ a0.size := Nat.le_of_eq (bytesOf_length a0)
  have hlen2 : a0.size ≤ (bytesOf a0).length := Nat.le_of_eq (bytesOf_length a0).symm
  have hrng : ∀ c ∈ bytesOf a0, 0 ≤ c ∧ c ≤ 255 := by
    intro c hc
    simp only [bytesOf, List.mem_map] at hc
    obtain ⟨b, _, rfl⟩ := hc
    have := b.toNat_lt
    omega
  have Hrng : Aside0 (∀ c ∈ bytesOf a0, 0 ≤ c ∧ c ≤ 255) := ⟨hrng⟩
  clear hrng
  go_enter Tryz.func84, Tryz.ntmps84
  go_wp2
  generalize Lib.bytesWorld w 5 a0 = w1 at hb0 hr0 ⊢
  generalize grownCap w a0.size 0 5 = cp at *
  go_loopw [4, 5, 10] (fun _ _ i wr => ∃ k : Nat, k ≤ a0.size ∧ i = .int .i64 k ∧ Aside0 (RowB wr w.heap.size (((bytesOf a0).take k).map lowC ++ (bytesOf a0).drop k)) ∧ Aside0 (Below w.heap.size w wr)) (fun _ _ i _ => a0.size - (intOf i).toNat)
  case atStart => exact ⟨0, Nat.zero_le _, rfl, ⟨by simpa using hr0.out⟩, hb0⟩
  case round =>
    obtain ⟨k, hk, rfl, hrow, hbel⟩ := hrel
    clear hr0 hb0
    by_cases hlt : k < a0.size
    · have hkl : k < (bytesOf a0).length := by omega
      have hll : k < (((bytesOf a0).take k).map lowC ++ (bytesOf a0).drop k).length := by simp; omega
      obtain ⟨hcell, hfrz⟩ := hrow.out k hll
      rw [getD_map_take _ _ hkl] at hcell
      have hc := Hrng.out (bytesOf a0)[k] (List.getElem_mem hkl)
      have HS : Aside0 (∀ v, v = lowC (bytesOf a0)[k] → RowB (wr.setCell ⟨w.heap.size, k, none⟩ (.int .u8 v)) w.heap.size (((bytesOf a0).take (k + 1)).map lowC ++ (bytesOf a0).drop (k + 1))) := ⟨fun v hv => by
        rw [hv]
        have := hrow.out.set k (lowC (bytesOf a0)[k])
        rwa [set_map_take lowC _ _ hkl] at this⟩
      have HE : Aside0 (lowC (bytesOf a0)[k] = (bytesOf a0)[k] → RowB wr w.heap.size (((bytesOf a0).take (k + 1)).map lowC ++ (bytesOf a0).drop (k + 1))) := ⟨fun hv => by
        have e := set_map_take lowC _ _ hkl
        rw [hv] at e
        rw [← e]
        have hid : (((bytesOf a0).take k).map lowC ++ (bytesOf a0).drop k).set k (bytesOf a0)[k] = ((bytesOf a0).take k).map lowC ++ (bytesOf a0).drop k := by
          have h2 : (((bytesOf a0).take k).map lowC ++ (bytesOf a0).drop k)[k] = (bytesOf a0)[k] := by
            have := getD_map_take (f := lowC) _ _ hkl
            rw [List.getD_eq_getElem?_getD, List.getElem?_eq_getElem hll] at this
            exact this
          rw [← h2, List.set_getElem_self]
        rw [hid]
        exact hrow.out⟩
      have HB1 : Aside0 (∀ v, Below w.heap.size w (wr.setCell ⟨w.heap.size, k, none⟩ v)) := ⟨fun v => hbel.out.setCell (Nat.le_refl _) _⟩
      generalize (bytesOf a0)[k] = c at *
      clear hrow
      by_cases h1 : 65 ≤ c
      · by_cases h2 : c ≤ 90
        · have hv := lowC_great h1 h2
          have hv : Aside0 (c - 65 + 97 = lowC c) := ⟨hv.symm⟩
          go_wp2
          go_roundw
          case rel => exact ⟨k + 1, by omega, by go_num, ⟨HS.out _ hv.out⟩, ⟨HB1.out _⟩⟩
          case measure => simp [intOf]; omega
        · have hv : Aside0 (lowC c = c) := ⟨lowC_else (by omega)⟩
          go_wp2
          go_roundw
          case rel => exact ⟨k + 1, by omega, by go_num, ⟨HE.out hv.out⟩, hbel⟩
          case measure => simp [intOf]; omega
      · have hv : Aside0 (lowC c = c) := ⟨lowC_else (by omega)⟩
        go_wp2
        go_roundw
        case rel => exact ⟨k + 1, by omega, by go_num, ⟨HE.out hv.out⟩, hbel⟩
        case measure => simp [intOf]; omega
    · have hke : k = a0.size := by omega
      have hx : ((bytesOf a0).take k).map lowC ++ (bytesOf a0).drop k = (bytesOf a0).map lowC := by
        rw [List.take_of_length_le (by omega), List.drop_eq_nil_of_le (by omega), List.append_nil]
      have hrow2 := hrow.out
      rw [hx] at hrow2
      have hl2 : ((bytesOf a0).map lowC).length = a0.size := by rw [List.length_map, bytesOf_length]
      have hrd := hrow2.reads (by omega)
      rw [hl2] at hrd
      have hcv := string_of_reads (P := Tryz.prog) (src := 111) (dst := 9) (c := cp) Tryz.underlying111 Tryz.underlying5 Tryz.underlying9 hrd
      have hf : Aside0 (strOfNums ((bytesOf a0).map lowC) = lowS a0) := ⟨rfl⟩
      have hl3 : Aside0 (((bytesOf a0).map lowC).length = a0.size) := ⟨hl2⟩
      clear hrow hrow2 hx hrd hke hl2
      generalize (bytesOf a0).map lowC = ys at *
      go_wp2
      go_ret
      exact ⟨congrArg (fun z => Ending.returned (.string z)) hf.out, hbel.out⟩
end Go.Proofs.YtcoaajkhfgakgaaGreatDoor.Pr
end

section
namespace Go.Proofs.YtcoaajkhfgakgaaGreatDoor.Pr
open Go.RowKit Go.Proofs.YtcoaajkhfgakgaaGreatDoorW.PrintWords Go.Proofs.YtcoaajkhfgakgaaGreatDoorW.PrintLast Go.Proofs.YtcoaajkhfgakgaaGreatDoorW.PrintMore
attribute [local go_sem] max2_int min2_int max_two min_two max_three min_three max_four min_four   -- for this text's walks alone
set_option linter.unusedVariables false
set_option linter.unusedSimpArgs false
def conf_head.f (k : Nat) (a0 : ByteArray) : Option (Bool) := (sign_Token.f k a0).bind fun t744 => (if t744 = true then ((sign_Lower.f a0).bind fun t745 => (if t745.toList = a0.toList then (some (decide ((a0.size : Int) ≤ 64))) else (some false))) else (some false))
theorem conf_head.mono : ∀ a0 k, LeO (conf_head.f k a0) (conf_head.f (k + 1) a0) := by
  intro a0 k
  unfold conf_head.f
  repeat' first
      | (with_reducible exact sign_Token.mono _ _)
      | (with_reducible exact LeO.refl _)
      | (with_reducible exact LeO.none _)
      | (with_reducible refine LeO.ite ?_ ?_)
      | (with_reducible refine LeO.bind ?_ (fun _ => ?_))
      | exact sign_Token.mono _ _
      | exact LeO.none _
      | refine LeO.ite ?_ ?_
      | refine LeO.bind ?_ (fun _ => ?_)
set_option maxHeartbeats 8000000 in
set_option maxRecDepth 100000 in
theorem conf_head.calls (k : Nat) (a0 : ByteArray) (r : Bool) (w : World) (h : conf_head.f k a0 = some r) :
    Calls Tryz.prog 53 #[.string a0] w fun e w' => e = .returned (.bool r) ∧ Below w.heap.size w w' := by
  have HB := Aside0.mk (Below.refl w.heap.size w)
  have H : ((sign_Token.f k a0).bind fun t744 => (if t744 = true then ((sign_Lower.f a0).bind fun t745 => (if t745.toList = a0.toList then (some (decide ((a0.size : Int) ≤ 64))) else (some false))) else (some false))) = some r := h
  clear h
  replace H := Option.bind_eq_some_iff.mp H
  obtain ⟨t744, A20, H⟩ := H
  replace H : (if t744 = true then ((sign_Lower.f a0).bind fun t745 => (if t745.toList = a0.toList then (some (decide ((a0.size : Int) ≤ 64))) else (some false))) else (some false)) = some r := H
  have A2 := Aside0.mk A20
  clear A20
  by_cases c3 : t744 = true
  · subst c3
    have H1 : ((sign_Lower.f a0).bind fun t745 => (if t745.toList = a0.toList then (some (decide ((a0.size : Int) ≤ 64))) else (some false))) = some r := by rw [if_pos rfl] at H; exact H
    clear H
    have H := H1
    clear H1
    replace H := Option.bind_eq_some_iff.mp H
    obtain ⟨t745, A40, H⟩ := H
    replace H : (if t745.toList = a0.toList then (some (decide ((a0.size : Int) ≤ 64))) else (some false)) = some r := H
    have A4 := Aside0.mk A40
    clear A40
    by_cases c5 : t745.toList = a0.toList
    · rw [if_pos c5] at H
      have c5b0 : (t745.toList == a0.toList) = true := beq_iff_eq.mpr c5
      have c5b1 : (t745.toList != a0.toList) = false := bne_eq_false_iff_eq.mpr c5
      clear c5
      obtain rfl := Option.some.inj H
      go_enter Tryz.func53, Tryz.ntmps53
      go_wp2_with (first | ((with_reducible refine gate_callee (f := 87) rfl ?_); refine goesL_ (some 4) rfl rfl Tryz.func87 (by kernel_rfl) rfl #[.string a0] rfl (by (try simp only [List.map_toArray, List.map_cons, List.map_nil]); first | done | rfl | (simp only [List.length_drop, List.length_take]; rfl)) ?_; (with_reducible refine (sign_Token.calls k a0 true _ A2.out).mono ?_); rintro e w' ⟨rfl, ⟨nd, rfl⟩⟩; refine ⟨_, rfl, ?_⟩) | (go_at_call 84; (with_reducible refine (sign_Lower.calls a0 t745 _ A4.out).mono ?_); rintro e w6 ⟨rfl, hb⟩; have n0_ := Aside0.mk (below_step (by repeat (first | (with_reducible first | exact HB.out | apply below_alloc | apply pw_below_drewN | apply below_drew1) | exact HB.out)) hb); clear HB; have HB := n0_; clear n0_; (try clear hb); (try clear hb2); (try clear hk); (try clear hi)))
      go_ret
      exact ⟨by first | rfl | (simp [errW_none, errW_some] <;> rfl) | (simp [*, errW_none, errW_some] <;> rfl) | (simp only [ne_nil_bool]; rfl), by repeat (first | (with_reducible first | exact HB.out | apply below_alloc | apply pw_below_drewN | apply below_drew1) | exact HB.out)⟩
    · rw [if_neg c5] at H
      have c5b0 : (t745.toList == a0.toList) = false := beq_eq_false_iff_ne.mpr c5
      have c5b1 : (t745.toList != a0.toList) = true := bne_iff_ne.mpr c5
      obtain rfl := Option.some.inj H
      go_enter Tryz.func53, Tryz.ntmps53
      go_wp2_with (first | ((with_reducible refine gate_callee (f := 87) rfl ?_); refine goesL_ (some 4) rfl rfl Tryz.func87 (by kernel_rfl) rfl #[.string a0] rfl (by (try simp only [List.map_toArray, List.map_cons, List.map_nil]); first | done | rfl | (simp only [List.length_drop, List.length_take]; rfl)) ?_; (with_reducible refine (sign_Token.calls k a0 true _ A2.out).mono ?_); rintro e w' ⟨rfl, ⟨nd, rfl⟩⟩; refine ⟨_, rfl, ?_⟩) | (go_at_call 84; (with_reducible refine (sign_Lower.calls a0 t745 _ A4.out).mono ?_); rintro e w7 ⟨rfl, hb⟩; have n0_ := Aside0.mk (below_step (by repeat (first | (with_reducible first | exact HB.out | apply below_alloc | apply pw_below_drewN | apply below_drew1) | exact HB.out)) hb); clear HB; have HB := n0_; clear n0_; (try clear hb); (try clear hb2); (try clear hk); (try clear hi)))
      go_ret
      exact ⟨by first | rfl | (simp [errW_none, errW_some] <;> rfl) | (simp [*, errW_none, errW_some] <;> rfl) | (simp only [ne_nil_bool]; rfl), by repeat (first | (with_reducible first | exact HB.out | apply below_alloc | apply pw_below_drewN | apply below_drew1) | exact HB.out)⟩
  · replace c3 := Bool.eq_false_iff.mpr c3
    subst c3
    have H1 : (some false) = some r := by rw [if_neg (show ¬ (false = true) by decide)] at H; exact H
    clear H
    have H := H1
    clear H1
    obtain rfl := Option.some.inj H
    go_enter Tryz.func53, Tryz.ntmps53
    go_wp2_with (first | ((with_reducible refine gate_callee (f := 87) rfl ?_); refine goesL_ (some 4) rfl rfl Tryz.func87 (by kernel_rfl) rfl #[.string a0] rfl (by (try simp only [List.map_toArray, List.map_cons, List.map_nil]); first | done | rfl | (simp only [List.length_drop, List.length_take]; rfl)) ?_; (with_reducible refine (sign_Token.calls k a0 false _ A2.out).mono ?_); rintro e w' ⟨rfl, ⟨nd, rfl⟩⟩; refine ⟨_, rfl, ?_⟩))
    go_ret
    exact ⟨by first | rfl | (simp [errW_none, errW_some] <;> rfl) | (simp [*, errW_none, errW_some] <;> rfl) | (simp only [ne_nil_bool]; rfl), by repeat (first | (with_reducible first | exact HB.out | apply below_alloc | apply pw_below_drewN | apply below_drew1) | exact HB.out)⟩
end Go.Proofs.YtcoaajkhfgakgaaGreatDoor.Pr
end

section
namespace Go.Proofs.YtcoaajkhfgakgaaGreatDoor.Pr
open Go.RowKit Go.Proofs.YtcoaajkhfgakgaaGreatDoorW.PrintWords Go.Proofs.YtcoaajkhfgakgaaGreatDoorW.PrintLast Go.Proofs.YtcoaajkhfgakgaaGreatDoorW.PrintMore
set_option linter.unusedVariables false
set_option linter.unusedSimpArgs false
def stringslite_Index.f (a0 : ByteArray) (a1 : ByteArray) : Option Int := match a1.data.toList with
  | [c] => some (Lib.indexByte a0.data.toList c)
  | _ => none
theorem stringslite_Index.calls (a0 : ByteArray) (a1 : ByteArray) (r : Int) (w : World) (h : stringslite_Index.f a0 a1 = some r) :
    Calls Tryz.prog 123 #[.string a0, .string a1] w fun e w' => e = .returned (.int .i64 r) ∧ Drawn0 w w' := by
  unfold stringslite_Index.f at h
  split at h
  · rename_i c hc
    injection h with h
    subst h
    obtain rfl : a1 = ⟨#[c]⟩ := by
      obtain ⟨⟨l⟩⟩ := a1
      simp only at hc
      rw [hc]
    refine (Tryz.stringslite_Index_one a0 c w).mono ?_
    rintro e w' ⟨rfl, rfl⟩
    exact ⟨rfl, Drawn0.refl _⟩
  · cases h
end Go.Proofs.YtcoaajkhfgakgaaGreatDoor.Pr
end

section
namespace Go.Proofs.YtcoaajkhfgakgaaGreatDoor.Pr
open Go.RowKit Go.Proofs.YtcoaajkhfgakgaaGreatDoorW.PrintWords Go.Proofs.YtcoaajkhfgakgaaGreatDoorW.PrintLast Go.Proofs.YtcoaajkhfgakgaaGreatDoorW.PrintMore
attribute [local go_sem] max2_int min2_int max_two min_two max_three min_three max_four min_four   -- for this text's walks alone
set_option linter.unusedVariables false
set_option linter.unusedSimpArgs false
def stringslite_Cut.f (a0 : ByteArray) (a1 : ByteArray) : Option (ByteArray × ByteArray × Bool) := (stringslite_Index.f a0 a1).bind fun t727 => (if t727 ≥ 0 then (if 0 ≤ t727 then (if t727 ≤ (a0.size : Int) then (if 0 ≤ (wrap64 (t727 + (a1.size : Int))) then (if (wrap64 (t727 + (a1.size : Int))) ≤ (a0.size : Int) then (some (a0.extract 0 (t727 : Int).toNat, a0.extract ((wrap64 (t727 + (a1.size : Int))) : Int).toNat a0.size, true)) else (none)) else (none)) else (none)) else (none)) else (some (a0, (⟨#[]⟩ : ByteArray), false)))
set_option maxHeartbeats 8000000 in
set_option maxRecDepth 100000 in
theorem stringslite_Cut.calls (a0 : ByteArray) (a1 : ByteArray) (r1 : ByteArray) (r2 : ByteArray) (r3 : Bool) (w : World) (h : stringslite_Cut.f a0 a1 = some (r1, r2, r3)) :
    Calls Tryz.prog 106 #[.string a0, .string a1] w fun e w' => e = .returned (.tuple #[.string r1, .string r2, .bool r3]) ∧ Drawn0 w w' := by
  have H : ((stringslite_Index.f a0 a1).bind fun t727 => (if t727 ≥ 0 then (if 0 ≤ t727 then (if t727 ≤ (a0.size : Int) then (if 0 ≤ (wrap64 (t727 + (a1.size : Int))) then (if (wrap64 (t727 + (a1.size : Int))) ≤ (a0.size : Int) then (some (a0.extract 0 (t727 : Int).toNat, a0.extract ((wrap64 (t727 + (a1.size : Int))) : Int).toNat a0.size, true)) else (none)) else (none)) else (none)) else (none)) else (some (a0, (⟨#[]⟩ : ByteArray), false)))) = some (r1, r2, r3) := h
  clear h
  replace H := Option.bind_eq_some_iff.mp H
  obtain ⟨t727, A30, H⟩ := H
  replace H : (if t727 ≥ 0 then (if 0 ≤ t727 then (if t727 ≤ (a0.size : Int) then (if 0 ≤ (wrap64 (t727 + (a1.size : Int))) then (if (wrap64 (t727 + (a1.size : Int))) ≤ (a0.size : Int) then (some (a0.extract 0 (t727 : Int).toNat, a0.extract ((wrap64 (t727 + (a1.size : Int))) : Int).toNat a0.size, true)) else (none)) else (none)) else (none)) else (none)) else (some (a0, (⟨#[]⟩ : ByteArray), false))) = some (r1, r2, r3) := H
  have A3 := Aside0.mk A30
  clear A30
  by_cases c4 : t727 ≥ 0
  · rw [if_pos c4] at H
    have c4b0 : decide (0 ≤ t727) = true := decide_eq_true c4
    clear c4
    by_cases c5 : 0 ≤ t727
    · rw [if_pos c5] at H
      have c5b0 := eq_true c5
      have c5b1 : decide (0 ≤ t727) = true := decide_eq_true c5
      clear c5
      by_cases c6 : t727 ≤ (a0.size : Int)
      · rw [if_pos c6] at H
        have c6b0 := eq_true c6
        have c6b1 : decide (t727 ≤ (a0.size : Int)) = true := decide_eq_true c6
        clear c6
        obtain ⟨ji7, hji7⟩ : ∃ j_ : Int, (wrap64 (t727 + (a1.size : Int))) = j_ := ⟨_, rfl⟩
        replace H : (if 0 ≤ (ji7) then (if (ji7) ≤ (a0.size : Int) then (some (a0.extract 0 (t727 : Int).toNat, a0.extract ((ji7) : Int).toNat a0.size, true)) else (none)) else (none)) = some (r1, r2, r3) := by first | (rw [hji7] at H; exact H) | (simp only [hji7] at H ⊢; exact H)
        (try rw [hji7] at A3)
        have hji7w : (IntKind.i64.wrap (t727 + (a1.size : Int))) = ji7 := (i64_w _).trans hji7
        by_cases c8 : 0 ≤ (ji7)
        · rw [if_pos c8] at H
          have c8b0 := eq_true c8
          have c8b1 : decide (0 ≤ (ji7)) = true := decide_eq_true c8
          clear c8
          by_cases c9 : (ji7) ≤ (a0.size : Int)
          · rw [if_pos c9] at H
            have c9b0 := eq_true c9
            have c9b1 : decide ((ji7) ≤ (a0.size : Int)) = true := decide_eq_true c9
            clear c9
            simp only [Option.some.injEq, Prod.mk.injEq] at H
            obtain ⟨rfl, rfl, rfl⟩ := H
            go_enter Tryz.func106, Tryz.ntmps106
            go_wp2_with (first | (go_at_call 123; (with_reducible refine (stringslite_Index.calls a0 a1 t727 _ A3.out).mono ?_); rintro e w' ⟨rfl, ⟨nd, rfl⟩⟩; (try first | exact ⟨rfl, _, World.drewN_drewN _ _ _⟩ | exact ⟨rfl, _, Eq.trans (World.drewN_drewN _ _ _) (congrArg (World.drewN _) (Nat.add_assoc _ _ _))⟩)))
            repeat (go_quiet (first | (go_at_call 123; (with_reducible refine (stringslite_Index.calls a0 a1 t727 _ A3.out).mono ?_); rintro e w' ⟨rfl, ⟨nd, rfl⟩⟩; (try first | exact ⟨rfl, _, World.drewN_drewN _ _ _⟩ | exact ⟨rfl, _, Eq.trans (World.drewN_drewN _ _ _) (congrArg (World.drewN _) (Nat.add_assoc _ _ _))⟩))); try go_wp2_with (first | (go_at_call 123; (with_reducible refine (stringslite_Index.calls a0 a1 t727 _ A3.out).mono ?_); rintro e w' ⟨rfl, ⟨nd, rfl⟩⟩; (try first | exact ⟨rfl, _, World.drewN_drewN _ _ _⟩ | exact ⟨rfl, _, Eq.trans (World.drewN_drewN _ _ _) (congrArg (World.drewN _) (Nat.add_assoc _ _ _))⟩))))
            go_ret3
            exact ⟨by first | rfl | (simp; done) | (simp only [← hji7] <;> (first | rfl | simp)) | (simp [*]; done) | (simp only [ne_nil_bool]; rfl), by repeat (first | exact Drawn0.refl _ | apply Drawn0.step)⟩
          · rw [if_neg c9] at H
            exact absurd H (by simp)
        · rw [if_neg c8] at H
          exact absurd H (by simp)
      · rw [if_neg c6] at H
        exact absurd H (by simp)
    · rw [if_neg c5] at H
      exact absurd H (by simp)
  · rw [if_neg c4] at H
    have c4b0 : decide (0 ≤ t727) = false := decide_eq_false c4
    clear c4
    simp only [Option.some.injEq, Prod.mk.injEq] at H
    obtain ⟨rfl, rfl, rfl⟩ := H
    go_enter Tryz.func106, Tryz.ntmps106
    go_wp2_with (first | (go_at_call 123; (with_reducible refine (stringslite_Index.calls a0 a1 t727 _ A3.out).mono ?_); rintro e w' ⟨rfl, ⟨nd, rfl⟩⟩; (try first | exact ⟨rfl, _, World.drewN_drewN _ _ _⟩ | exact ⟨rfl, _, Eq.trans (World.drewN_drewN _ _ _) (congrArg (World.drewN _) (Nat.add_assoc _ _ _))⟩)))
    repeat (go_quiet (first | (go_at_call 123; (with_reducible refine (stringslite_Index.calls a0 a1 t727 _ A3.out).mono ?_); rintro e w' ⟨rfl, ⟨nd, rfl⟩⟩; (try first | exact ⟨rfl, _, World.drewN_drewN _ _ _⟩ | exact ⟨rfl, _, Eq.trans (World.drewN_drewN _ _ _) (congrArg (World.drewN _) (Nat.add_assoc _ _ _))⟩))); try go_wp2_with (first | (go_at_call 123; (with_reducible refine (stringslite_Index.calls a0 a1 t727 _ A3.out).mono ?_); rintro e w' ⟨rfl, ⟨nd, rfl⟩⟩; (try first | exact ⟨rfl, _, World.drewN_drewN _ _ _⟩ | exact ⟨rfl, _, Eq.trans (World.drewN_drewN _ _ _) (congrArg (World.drewN _) (Nat.add_assoc _ _ _))⟩))))
    go_ret3
    exact ⟨by first | rfl | (simp; done) | (simp [*]; done) | (simp only [ne_nil_bool]; rfl), by repeat (first | exact Drawn0.refl _ | apply Drawn0.step)⟩
end Go.Proofs.YtcoaajkhfgakgaaGreatDoor.Pr
end

section
namespace Go.Proofs.YtcoaajkhfgakgaaGreatDoor.Pr
open Go.RowKit Go.Proofs.YtcoaajkhfgakgaaGreatDoorW.PrintWords Go.Proofs.YtcoaajkhfgakgaaGreatDoorW.PrintLast Go.Proofs.YtcoaajkhfgakgaaGreatDoorW.PrintMore
attribute [local go_sem] max2_int min2_int max_two min_two max_three min_three max_four min_four   -- for this text's walks alone
set_option linter.unusedVariables false
set_option linter.unusedSimpArgs false
def strings_Cut.f (a0 : ByteArray) (a1 : ByteArray) : Option (ByteArray × ByteArray × Bool) := (stringslite_Cut.f a0 a1).bind fun bt728 => (some (bt728.1, bt728.2.1, bt728.2.2))
set_option maxHeartbeats 8000000 in
set_option maxRecDepth 100000 in
theorem strings_Cut.calls (a0 : ByteArray) (a1 : ByteArray) (r1 : ByteArray) (r2 : ByteArray) (r3 : Bool) (w : World) (h : strings_Cut.f a0 a1 = some (r1, r2, r3)) :
    Calls Tryz.prog 81 #[.string a0, .string a1] w fun e w' => e = .returned (.tuple #[.string r1, .string r2, .bool r3]) ∧ Drawn0 w w' := by
  have H : ((stringslite_Cut.f a0 a1).bind fun bt728 => (some (bt728.1, bt728.2.1, bt728.2.2))) = some (r1, r2, r3) := h
  clear h
  replace H := Option.bind_eq_some_iff.mp H
  obtain ⟨⟨t728, t729, t730⟩, A30, H⟩ := H
  replace H : (some (t728, t729, t730)) = some (r1, r2, r3) := H
  have A3 := Aside0.mk A30
  clear A30
  simp only [Option.some.injEq, Prod.mk.injEq] at H
  obtain ⟨rfl, rfl, rfl⟩ := H
  go_enter Tryz.func81, Tryz.ntmps81
  go_wp2_with (first | ((with_reducible refine gate_callee (f := 106) rfl ?_); refine goesL_ (some 9) rfl rfl Tryz.func106 (by kernel_rfl) rfl #[.string a0, .string a1] rfl (by (try simp only [List.map_toArray, List.map_cons, List.map_nil]); first | done | rfl | (simp only [List.length_drop, List.length_take]; rfl)) ?_; (with_reducible refine (stringslite_Cut.calls a0 a1 t728 t729 t730 _ A3.out).mono ?_); rintro e w' ⟨rfl, ⟨nd, rfl⟩⟩; refine ⟨_, rfl, ?_⟩))
  go_ret3
  exact ⟨by first | rfl | (simp; done) | (simp [*]; done) | (simp only [ne_nil_bool]; rfl), by repeat (first | exact Drawn0.refl _ | apply Drawn0.step)⟩
end Go.Proofs.YtcoaajkhfgakgaaGreatDoor.Pr
end

section
namespace Go.Proofs.YtcoaajkhfgakgaaGreatDoor.Pr
open Go.RowKit Go.Proofs.YtcoaajkhfgakgaaGreatDoorW.PrintWords Go.Proofs.YtcoaajkhfgakgaaGreatDoorW.PrintLast Go.Proofs.YtcoaajkhfgakgaaGreatDoorW.PrintMore
attribute [local go_sem] max2_int min2_int max_two min_two max_three min_three max_four min_four   -- for this text's walks alone
set_option linter.unusedVariables false
set_option linter.unusedSimpArgs false
def place_letter.f (a0 : Int) : Option (Bool) := if a0 ≥ 97 then (if a0 ≤ 122 then (some true) else (if a0 ≥ 65 then (if a0 ≤ 90 then (some true) else (if a0 ≥ 48 then (some (decide (a0 ≤ 57))) else (some false))) else (if a0 ≥ 48 then (some (decide (a0 ≤ 57))) else (some false)))) else (if a0 ≥ 65 then (if a0 ≤ 90 then (some true) else (if a0 ≥ 48 then (some (decide (a0 ≤ 57))) else (some false))) else (if a0 ≥ 48 then (some (decide (a0 ≤ 57))) else (some false)))
set_option maxHeartbeats 8000000 in
set_option maxRecDepth 100000 in
theorem place_letter.calls (a0 : Int) (r : Bool) (w : World) (h : place_letter.f a0 = some r) :
    Calls Tryz.prog 107 #[.int .u8 a0] w fun e w' => e = .returned (.bool r) ∧ Drawn0 w w' := by
  have H : (if a0 ≥ 97 then (if a0 ≤ 122 then (some true) else (if a0 ≥ 65 then (if a0 ≤ 90 then (some true) else (if a0 ≥ 48 then (some (decide (a0 ≤ 57))) else (some false))) else (if a0 ≥ 48 then (some (decide (a0 ≤ 57))) else (some false)))) else (if a0 ≥ 65 then (if a0 ≤ 90 then (some true) else (if a0 ≥ 48 then (some (decide (a0 ≤ 57))) else (some false))) else (if a0 ≥ 48 then (some (decide (a0 ≤ 57))) else (some false)))) = some r := h
  clear h
  by_cases c2 : a0 ≥ 97
  · rw [if_pos c2] at H
    have c2b0 : decide (97 ≤ a0) = true := decide_eq_true c2
    clear c2
    by_cases c3 : a0 ≤ 122
    · rw [if_pos c3] at H
      have c3b0 : decide (a0 ≤ 122) = true := decide_eq_true c3
      clear c3
      obtain rfl := Option.some.inj H
      go_enter Tryz.func107, Tryz.ntmps107
      go_wp2
      go_ret
      exact ⟨by first | rfl | (simp; done) | (simp [*]; done) | (simp only [ne_nil_bool]; rfl), by repeat (first | exact Drawn0.refl _ | apply Drawn0.step)⟩
    · rw [if_neg c3] at H
      have c3b0 : decide (a0 ≤ 122) = false := decide_eq_false c3
      clear c3
      by_cases c4 : a0 ≥ 65
      · rw [if_pos c4] at H
        have c4b0 : decide (65 ≤ a0) = true := decide_eq_true c4
        clear c4
        by_cases c5 : a0 ≤ 90
        · rw [if_pos c5] at H
          have c5b0 : decide (a0 ≤ 90) = true := decide_eq_true c5
          clear c5
          obtain rfl := Option.some.inj H
          go_enter Tryz.func107, Tryz.ntmps107
          go_wp2
          go_ret
          exact ⟨by first | rfl | (simp; done) | (simp [*]; done) | (simp only [ne_nil_bool]; rfl), by repeat (first | exact Drawn0.refl _ | apply Drawn0.step)⟩
        · rw [if_neg c5] at H
          have c5b0 : decide (a0 ≤ 90) = false := decide_eq_false c5
          clear c5
          by_cases c6 : a0 ≥ 48
          · rw [if_pos c6] at H
            have c6b0 : decide (48 ≤ a0) = true := decide_eq_true c6
            clear c6
            obtain rfl := Option.some.inj H
            go_enter Tryz.func107, Tryz.ntmps107
            go_wp2
            go_ret
            exact ⟨by first | rfl | (simp; done) | (simp [*]; done) | (simp only [ne_nil_bool]; rfl), by repeat (first | exact Drawn0.refl _ | apply Drawn0.step)⟩
          · rw [if_neg c6] at H
            have c6b0 : decide (48 ≤ a0) = false := decide_eq_false c6
            clear c6
            obtain rfl := Option.some.inj H
            go_enter Tryz.func107, Tryz.ntmps107
            go_wp2
            go_ret
            exact ⟨by first | rfl | (simp; done) | (simp [*]; done) | (simp only [ne_nil_bool]; rfl), by repeat (first | exact Drawn0.refl _ | apply Drawn0.step)⟩
      · rw [if_neg c4] at H
        have c4b0 : decide (65 ≤ a0) = false := decide_eq_false c4
        clear c4
        by_cases c7 : a0 ≥ 48
        · rw [if_pos c7] at H
          have c7b0 : decide (48 ≤ a0) = true := decide_eq_true c7
          clear c7
          obtain rfl := Option.some.inj H
          go_enter Tryz.func107, Tryz.ntmps107
          go_wp2
          go_ret
          exact ⟨by first | rfl | (simp; done) | (simp [*]; done) | (simp only [ne_nil_bool]; rfl), by repeat (first | exact Drawn0.refl _ | apply Drawn0.step)⟩
        · rw [if_neg c7] at H
          have c7b0 : decide (48 ≤ a0) = false := decide_eq_false c7
          clear c7
          obtain rfl := Option.some.inj H
          go_enter Tryz.func107, Tryz.ntmps107
          go_wp2
          go_ret
          exact ⟨by first | rfl | (simp; done) | (simp [*]; done) | (simp only [ne_nil_bool]; rfl), by repeat (first | exact Drawn0.refl _ | apply Drawn0.step)⟩
  · rw [if_neg c2] at H
    have c2b0 : decide (97 ≤ a0) = false := decide_eq_false c2
    clear c2
    by_cases c8 : a0 ≥ 65
    · rw [if_pos c8] at H
      have c8b0 : decide (65 ≤ a0) = true := decide_eq_true c8
      clear c8
      by_cases c9 : a0 ≤ 90
      · rw [if_pos c9] at H
        have c9b0 : decide (a0 ≤ 90) = true := decide_eq_true c9
        clear c9
        obtain rfl := Option.some.inj H
        go_enter Tryz.func107, Tryz.ntmps107
        go_wp2
        go_ret
        exact ⟨by first | rfl | (simp; done) | (simp [*]; done) | (simp only [ne_nil_bool]; rfl), by repeat (first | exact Drawn0.refl _ | apply Drawn0.step)⟩
      · rw [if_neg c9] at H
        have c9b0 : decide (a0 ≤ 90) = false := decide_eq_false c9
        clear c9
        by_cases c10 : a0 ≥ 48
        · rw [if_pos c10] at H
          have c10b0 : decide (48 ≤ a0) = true := decide_eq_true c10
          clear c10
          obtain rfl := Option.some.inj H
          go_enter Tryz.func107, Tryz.ntmps107
          go_wp2
          go_ret
          exact ⟨by first | rfl | (simp; done) | (simp [*]; done) | (simp only [ne_nil_bool]; rfl), by repeat (first | exact Drawn0.refl _ | apply Drawn0.step)⟩
        · rw [if_neg c10] at H
          have c10b0 : decide (48 ≤ a0) = false := decide_eq_false c10
          clear c10
          obtain rfl := Option.some.inj H
          go_enter Tryz.func107, Tryz.ntmps107
          go_wp2
          go_ret
          exact ⟨by first | rfl | (simp; done) | (simp [*]; done) | (simp only [ne_nil_bool]; rfl), by repeat (first | exact Drawn0.refl _ | apply Drawn0.step)⟩
    · rw [if_neg c8] at H
      have c8b0 : decide (65 ≤ a0) = false := decide_eq_false c8
      clear c8
      by_cases c11 : a0 ≥ 48
      · rw [if_pos c11] at H
        have c11b0 : decide (48 ≤ a0) = true := decide_eq_true c11
        clear c11
        obtain rfl := Option.some.inj H
        go_enter Tryz.func107, Tryz.ntmps107
        go_wp2
        go_ret
        exact ⟨by first | rfl | (simp; done) | (simp [*]; done) | (simp only [ne_nil_bool]; rfl), by repeat (first | exact Drawn0.refl _ | apply Drawn0.step)⟩
      · rw [if_neg c11] at H
        have c11b0 : decide (48 ≤ a0) = false := decide_eq_false c11
        clear c11
        obtain rfl := Option.some.inj H
        go_enter Tryz.func107, Tryz.ntmps107
        go_wp2
        go_ret
        exact ⟨by first | rfl | (simp; done) | (simp [*]; done) | (simp only [ne_nil_bool]; rfl), by repeat (first | exact Drawn0.refl _ | apply Drawn0.step)⟩
end Go.Proofs.YtcoaajkhfgakgaaGreatDoor.Pr
end

section
namespace Go.Proofs.YtcoaajkhfgakgaaGreatDoor.Pr
open Go.RowKit Go.Proofs.YtcoaajkhfgakgaaGreatDoorW.PrintWords Go.Proofs.YtcoaajkhfgakgaaGreatDoorW.PrintLast Go.Proofs.YtcoaajkhfgakgaaGreatDoorW.PrintMore
set_option linter.unusedVariables false
set_option linter.unusedSimpArgs false
def letterB (c : Int) : Bool := decide (97 ≤ c ∧ c ≤ 122) || decide (65 ≤ c ∧ c ≤ 90) || decide (48 ≤ c ∧ c ≤ 57)
def signB (l1 : List Int) (c : Int) : Bool := letterB c || decide (0 ≤ Lib.indexByte (strOfNums l1).data.toList c.toNat.toUInt8)
def onlyF (s : ByteArray) (l1 : List Int) : Nat → Nat → Bool
  | 0, _ => true
  | n + 1, i => if i < s.size then signB l1 (bt s i) && onlyF s l1 n (i + 1) else true
def onlyS (s : ByteArray) (l1 : List Int) : Bool := onlyF s l1 (s.size + 1) 0
def place_only.f (a0 : ByteArray) (l1 : List Int) : Option Bool := if a0.size ≤ 1099511627776 then some (onlyS a0 l1) else none
theorem letter_f (c : Int) : place_letter.f c = some (letterB c) := by
  unfold place_letter.f letterB
  repeat' split
  all_goals (congr 1; rw [Bool.eq_iff_iff]; simp only [Bool.or_eq_true, decide_eq_true_eq, true_iff, Bool.false_eq_true, false_iff]; omega)
theorem letter_quiet (c : Int) (w : World) : Calls Tryz.prog 107 #[.int .u8 c] w fun e w' => e = .returned (.bool (letterB c)) ∧ ∃ m, w' = w.drewN m := by
  refine (place_letter.calls c _ w (letter_f c)).mono ?_
  rintro e w' ⟨rfl, ⟨h⟩⟩
  exact ⟨rfl, h⟩
theorem onlyF_step (s : ByteArray) (l1 : List Int) (n i : Nat) (h : i < s.size) : onlyF s l1 (n + 1) i = (signB l1 (bt s i) && onlyF s l1 n (i + 1)) := by rw [onlyF, if_pos h]
theorem onlyF_end (s : ByteArray) (l1 : List Int) (n i : Nat) (h : ¬ i < s.size) : onlyF s l1 n i = true := by
  cases n with
  | zero => rfl
  | succ n => rw [onlyF, if_neg h]
set_option maxHeartbeats 1000000 in
theorem place_only.calls (a0 : ByteArray) (A1 : Option Addr) (c1 : Nat) (l1 : List Int) (r : Bool) (w : World) (hr1 : Kd.C (Kd.int .u8) w A1 l1.length l1) (hc1 : l1.length ≤ c1) (h : place_only.f a0 l1 = some r) :
    Calls Tryz.prog 83 #[.string a0, .slice A1 l1.length c1] w fun e w' => e = .returned (.bool r) ∧ Drawn0 w w' := by
  have hb : a0.size ≤ 1099511627776 := by
    unfold place_only.f at h
    split at h
    · assumption
    · cases h
  obtain rfl : onlyS a0 l1 = r := by
    unfold place_only.f at h
    rw [if_pos hb] at h
    injection h
  clear h
  have hcv : Aside0 (∀ q, (convert 111 9 (.slice A1 l1.length c1)).run Tryz.prog (w.drewN q) = .ok (.string (strOfNums l1)) (w.drewN q)) := ⟨fun q => Kd.C_string (P := Tryz.prog) Tryz.underlying111 Tryz.underlying5 Tryz.underlying9 (w := w.drewN q) (Kd.C_below hr1 (pw_below_drewN (Below.refl _ _) q))⟩
  clear hr1
  go_enter Tryz.func83, Tryz.ntmps83
  go_wp2
  go_loopw [4, 5, 8] (fun s4 _ i wr => ∃ (k q n : Nat), s4 = .bool false ∧ i = .int .i64 k ∧ Aside0 (wr = w.drewN q) ∧ Aside0 (onlyF a0 l1 n k = onlyS a0 l1) ∧ k ≤ a0.size ∧ a0.size < n + k) (fun _ _ i _ => a0.size - (intOf i).toNat)
  case atStart => exact ⟨0, 0, a0.size + 1, rfl, rfl, ⟨rfl⟩, ⟨rfl⟩, by omega, by omega⟩
  case round =>
    obtain ⟨k, q, n, rfl, rfl, hw, hon, hk, hn⟩ := hrel
    by_cases hlt : k < a0.size
    · obtain ⟨n, rfl⟩ : ∃ m, n = m + 1 := ⟨n - 1, by omega⟩
      have hst := onlyF_step a0 l1 n k hlt
      have hb1 : ∀ h : k < a0.size, ((a0[k]'h).toNat : Int) = bt a0 k := fun h => by simp [bt, h]
      have g0 : (0 : Int) ≤ (k : Int) := by omega
      have g1 : (k : Int) < (a0.size : Int) := by omega
      have hcv2 := fun m => hcv.out (q + m)
      have e0 : wr = w.drewN q := hw.out
      have hcv3 : ∀ m, (convert 111 9 (.slice A1 l1.length c1)).run Tryz.prog (wr.drewN m) = .ok (.string (strOfNums l1)) (wr.drewN m) := fun m => by
        rw [e0, World.drewN_drewN]
        exact hcv2 m
      have hle := letter_quiet (bt a0 k)
      have hix := fun W => Tryz.strings_IndexByte (strOfNums l1) (bt a0 k) W
      clear hcv2 e0 hcv
      have HL := Aside0.mk hle
      have HX := Aside0.mk hix
      clear hle hix
      by_cases hl : letterB (bt a0 k) = true
      · have HN : Aside0 (onlyF a0 l1 n (k + 1) = onlyS a0 l1) := ⟨by rw [← hon.out, hst, signB, hl, Bool.true_or, Bool.true_and]⟩
        rw [hl] at HL
        clear hst hl hon HX
        generalize bt a0 k = c at *
        go_wp2_with fail
        go_quiet ((go_at_call 107; exact Calls.quiet_of (HL.out _)))
        go_wp2
        go_roundw
        case rel => exact ⟨k + 1, _, n, rfl, by go_num, ⟨by rw [hw.out]; exact World.drewN_drewN ..⟩, HN, by omega, by omega⟩
        case measure => simp [intOf]; omega
      · have hl : letterB (bt a0 k) = false := by simpa using hl
        have hcv4 := Aside0.mk hcv3
        by_cases hi : 0 ≤ Lib.indexByte (strOfNums l1).data.toList (bt a0 k).toNat.toUInt8
        · have HN : Aside0 (onlyF a0 l1 n (k + 1) = onlyS a0 l1) := ⟨by rw [← hon.out, hst, signB, hl, decide_eq_true hi]; rfl⟩
          rw [hl] at HL
          clear hst hl hon
          generalize Lib.indexByte (strOfNums l1).data.toList (bt a0 k).toNat.toUInt8 = ix at *
          generalize bt a0 k = c at *
          go_wp2_with fail
          go_quiet ((first | (go_at_call 107; exact Calls.quiet_of (HL.out _)) | (go_at_call 108; exact Calls.quiet_of_same (HX.out _))))
          go_wp2
          go_roundw
          case rel => exact ⟨k + 1, _, n, rfl, by go_num, ⟨by rw [hw.out]; exact World.drewN_drewN ..⟩, HN, by omega, by omega⟩
          case measure => simp [intOf]; omega
        · have HN : Aside0 (onlyS a0 l1 = false) := ⟨by rw [← hon.out, hst, signB, hl, decide_eq_false hi]; rfl⟩
          rw [hl] at HL
          clear hst hl hon
          generalize Lib.indexByte (strOfNums l1).data.toList (bt a0 k).toNat.toUInt8 = ix at *
          generalize bt a0 k = c at *
          have hi2 : ix < 0 := by omega
          go_wp2_with fail
          go_quiet ((first | (go_at_call 107; exact Calls.quiet_of (HL.out _)) | (go_at_call 108; exact Calls.quiet_of_same (HX.out _))))
          go_wp2
          go_ret
          exact ⟨congrArg (fun z => Ending.returned (.bool z)) HN.out.symm, ⟨_, by rw [hw.out]; exact World.drewN_drewN ..⟩⟩
    · have HN : Aside0 (onlyS a0 l1 = true) := ⟨by rw [← hon.out, onlyF_end _ _ _ _ hlt]⟩
      clear hon
      go_wp2
      go_ret
      exact ⟨congrArg (fun z => Ending.returned (.bool z)) HN.out.symm, ⟨_, hw.out⟩⟩
end Go.Proofs.YtcoaajkhfgakgaaGreatDoor.Pr
end

section
namespace Go.Proofs.YtcoaajkhfgakgaaGreatDoor.Pr
open Go.RowKit Go.Proofs.YtcoaajkhfgakgaaGreatDoorW.PrintWords Go.Proofs.YtcoaajkhfgakgaaGreatDoorW.PrintLast Go.Proofs.YtcoaajkhfgakgaaGreatDoorW.PrintMore
set_option linter.unusedVariables false
set_option linter.unusedSimpArgs false
def strings_TrimLeft.f (a0 : ByteArray) (a1 : ByteArray) : Option ByteArray := match a1.data.toList with
  | [c] => if c.toNat < 128 then some ⟨(Lib.trimLeftB a0.data.toList c).toArray⟩ else none
  | _ => none
theorem strings_TrimLeft.calls (a0 : ByteArray) (a1 : ByteArray) (r : ByteArray) (w : World) (h : strings_TrimLeft.f a0 a1 = some r) :
    Calls Tryz.prog 85 #[.string a0, .string a1] w fun e w' => e = .returned (.string r) ∧ Drawn0 w w' := by
  unfold strings_TrimLeft.f at h
  split at h
  · rename_i c hc
    split at h
    · rename_i hlt
      injection h with h
      subst h
      obtain rfl : a1 = ⟨#[c]⟩ := by
        obtain ⟨⟨l⟩⟩ := a1
        simp only at hc
        rw [hc]
      refine (Tryz.strings_TrimLeft_one a0 c hlt w).mono ?_
      rintro e w' ⟨rfl, rfl⟩
      exact ⟨rfl, Drawn0.refl _⟩
    · cases h
  · cases h
end Go.Proofs.YtcoaajkhfgakgaaGreatDoor.Pr
end
