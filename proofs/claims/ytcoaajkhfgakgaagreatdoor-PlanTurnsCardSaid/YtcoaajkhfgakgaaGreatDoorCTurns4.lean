/- Part 4 of the proof of Turns: what the program's functions compute, and that it is so. Conditions: as each theorem states. (Packed out of our texts: PF35, XSmall, XDiffLaw, PE0, PF31, PF33, XTableRight, XNextC0.) -/
import Derived.Test.YtcoaajkhfgakgaaGreatDoorCTurns3
section
namespace Go.Proofs.YtcoaajkhfgakgaaGreatDoor.Pr
open Go.RowKit Go.Proofs.YtcoaajkhfgakgaaGreatDoorW.PrintWords Go.Proofs.YtcoaajkhfgakgaaGreatDoorW.PrintLast Go.Proofs.YtcoaajkhfgakgaaGreatDoorW.PrintMore
attribute [local go_sem] max2_int min2_int max_two min_two max_three min_three max_four min_four   -- for this text's walks alone
set_option linter.unusedVariables false
set_option linter.unusedSimpArgs false
mutual
def pantryref09_Alike.j0 : Nat → Bool → ByteArray → Int → Int → Int → Bool → Bool → List ByteArray → ByteArray → Int → Int → Int → Bool → Bool → List ByteArray → Option (Bool)
  | 0, _, _, _, _, _, _, _, _, _, _, _, _, _, _, _ => none
  | k + 1, x54, x300000, x300001, x300002, x300003, x300004, x300005, x300006, x301000, x301001, x301002, x301003, x301004, x301005, x301006 => if x54 = true then (some false) else (pantryref09_Alike.l0 k 0 x300000 x300001 x300002 x300003 x300004 x300005 x300006 x301000 x301001 x301002 x301003 x301004 x301005 x301006)
def pantryref09_Alike.l0 : Nat → Int → ByteArray → Int → Int → Int → Bool → Bool → List ByteArray → ByteArray → Int → Int → Int → Bool → Bool → List ByteArray → Option (Bool)
  | 0, _, _, _, _, _, _, _, _, _, _, _, _, _, _, _ => none
  | k + 1, x5, x300000, x300001, x300002, x300003, x300004, x300005, x300006, x301000, x301001, x301002, x301003, x301004, x301005, x301006 => if x5 < (x300006.length : Int) then (if 0 ≤ x5 then (if x5 < (x301006.length : Int) then (if (rdOf ByteArray.empty x300006 x5).toList = (rdOf ByteArray.empty x301006 x5).toList then (pantryref09_Alike.l0 k (wrap64 (x5 + 1)) x300000 x300001 x300002 x300003 x300004 x300005 x300006 x301000 x301001 x301002 x301003 x301004 x301005 x301006) else (some false)) else (none)) else (none)) else (some true)
end
def pantryref09_Alike.f (k : Nat) (a0_0 : ByteArray) (a0_1 : Int) (a0_2 : Int) (a0_3 : Int) (a0_4 : Bool) (a0_5 : Bool) (l0_6 : List ByteArray) (a1_0 : ByteArray) (a1_1 : Int) (a1_2 : Int) (a1_3 : Int) (a1_4 : Bool) (a1_5 : Bool) (l1_6 : List ByteArray) : Option (Bool) := if a0_0.toList = a1_0.toList then (if a0_1 = a1_1 then (if a0_2 = a1_2 then (if a0_3 = a1_3 then (if (a0_4 != a1_4) = true then (pantryref09_Alike.j0 k true a0_0 a0_1 a0_2 a0_3 a0_4 a0_5 l0_6 a1_0 a1_1 a1_2 a1_3 a1_4 a1_5 l1_6) else (if (a0_5 != a1_5) = true then (pantryref09_Alike.j0 k true a0_0 a0_1 a0_2 a0_3 a0_4 a0_5 l0_6 a1_0 a1_1 a1_2 a1_3 a1_4 a1_5 l1_6) else (pantryref09_Alike.j0 k ((l0_6.length : Int) != (l1_6.length : Int)) a0_0 a0_1 a0_2 a0_3 a0_4 a0_5 l0_6 a1_0 a1_1 a1_2 a1_3 a1_4 a1_5 l1_6))) else (pantryref09_Alike.j0 k true a0_0 a0_1 a0_2 a0_3 a0_4 a0_5 l0_6 a1_0 a1_1 a1_2 a1_3 a1_4 a1_5 l1_6)) else (pantryref09_Alike.j0 k true a0_0 a0_1 a0_2 a0_3 a0_4 a0_5 l0_6 a1_0 a1_1 a1_2 a1_3 a1_4 a1_5 l1_6)) else (pantryref09_Alike.j0 k true a0_0 a0_1 a0_2 a0_3 a0_4 a0_5 l0_6 a1_0 a1_1 a1_2 a1_3 a1_4 a1_5 l1_6)) else (pantryref09_Alike.j0 k true a0_0 a0_1 a0_2 a0_3 a0_4 a0_5 l0_6 a1_0 a1_1 a1_2 a1_3 a1_4 a1_5 l1_6)
theorem pantryref09_Alike.mono_l : ∀ k, (∀ y0 y1 y2 y3 y4 y5 y6 y7 y8 y9 y10 y11 y12 y13 y14, LeO (pantryref09_Alike.j0 k y0 y1 y2 y3 y4 y5 y6 y7 y8 y9 y10 y11 y12 y13 y14) (pantryref09_Alike.j0 (k + 1) y0 y1 y2 y3 y4 y5 y6 y7 y8 y9 y10 y11 y12 y13 y14)) ∧ (∀ y0 y1 y2 y3 y4 y5 y6 y7 y8 y9 y10 y11 y12 y13 y14, LeO (pantryref09_Alike.l0 k y0 y1 y2 y3 y4 y5 y6 y7 y8 y9 y10 y11 y12 y13 y14) (pantryref09_Alike.l0 (k + 1) y0 y1 y2 y3 y4 y5 y6 y7 y8 y9 y10 y11 y12 y13 y14))
  | 0 => ⟨fun _ _ _ _ _ _ _ _ _ _ _ _ _ _ _ r h => by simp [pantryref09_Alike.j0] at h, fun _ _ _ _ _ _ _ _ _ _ _ _ _ _ _ r h => by simp [pantryref09_Alike.l0] at h⟩
  | k + 1 => by
    obtain ⟨ih0, ih1⟩ := pantryref09_Alike.mono_l k
    refine ⟨?_, ?_⟩
    · intro y0 y1 y2 y3 y4 y5 y6 y7 y8 y9 y10 y11 y12 y13 y14
      unfold pantryref09_Alike.j0
      repeat' first
      | (with_reducible exact ih0 _ _ _ _ _ _ _ _ _ _ _ _ _ _ _)
      | (with_reducible exact ih1 _ _ _ _ _ _ _ _ _ _ _ _ _ _ _)
      | (with_reducible exact LeO.refl _)
      | (with_reducible exact LeO.none _)
      | (with_reducible refine LeO.ite ?_ ?_)
      | (with_reducible refine LeO.bind ?_ (fun _ => ?_))
      | exact ih0 _ _ _ _ _ _ _ _ _ _ _ _ _ _ _
      | exact ih1 _ _ _ _ _ _ _ _ _ _ _ _ _ _ _
      | exact LeO.none _
      | refine LeO.ite ?_ ?_
      | refine LeO.bind ?_ (fun _ => ?_)
    · intro y0 y1 y2 y3 y4 y5 y6 y7 y8 y9 y10 y11 y12 y13 y14
      unfold pantryref09_Alike.l0
      repeat' first
      | (with_reducible exact ih0 _ _ _ _ _ _ _ _ _ _ _ _ _ _ _)
      | (with_reducible exact ih1 _ _ _ _ _ _ _ _ _ _ _ _ _ _ _)
      | (with_reducible exact LeO.refl _)
      | (with_reducible exact LeO.none _)
      | (with_reducible refine LeO.ite ?_ ?_)
      | (with_reducible refine LeO.bind ?_ (fun _ => ?_))
      | exact ih0 _ _ _ _ _ _ _ _ _ _ _ _ _ _ _
      | exact ih1 _ _ _ _ _ _ _ _ _ _ _ _ _ _ _
      | exact LeO.none _
      | refine LeO.ite ?_ ?_
      | refine LeO.bind ?_ (fun _ => ?_)
theorem pantryref09_Alike.mono : ∀ a0 a1 a2 a3 a4 a5 a6 a7 a8 a9 a10 a11 a12 a13 k, LeO (pantryref09_Alike.f k a0 a1 a2 a3 a4 a5 a6 a7 a8 a9 a10 a11 a12 a13) (pantryref09_Alike.f (k + 1) a0 a1 a2 a3 a4 a5 a6 a7 a8 a9 a10 a11 a12 a13) := by
  intro a0 a1 a2 a3 a4 a5 a6 a7 a8 a9 a10 a11 a12 a13 k
  obtain ⟨ih0, ih1⟩ := pantryref09_Alike.mono_l k
  unfold pantryref09_Alike.f
  repeat' first
      | (with_reducible exact ih0 _ _ _ _ _ _ _ _ _ _ _ _ _ _ _)
      | (with_reducible exact ih1 _ _ _ _ _ _ _ _ _ _ _ _ _ _ _)
      | (with_reducible exact LeO.refl _)
      | (with_reducible exact LeO.none _)
      | (with_reducible refine LeO.ite ?_ ?_)
      | (with_reducible refine LeO.bind ?_ (fun _ => ?_))
      | exact ih0 _ _ _ _ _ _ _ _ _ _ _ _ _ _ _
      | exact ih1 _ _ _ _ _ _ _ _ _ _ _ _ _ _ _
      | exact LeO.none _
      | refine LeO.ite ?_ ?_
      | refine LeO.bind ?_ (fun _ => ?_)
end Go.Proofs.YtcoaajkhfgakgaaGreatDoor.Pr
end

section
namespace Go.Proofs.YtcoaajkhfgakgaaGreatDoor.Pr
open Go.RowKit Go.Proofs.YtcoaajkhfgakgaaGreatDoorW.PrintWords Go.Proofs.YtcoaajkhfgakgaaGreatDoorW.PrintLast Go.Proofs.YtcoaajkhfgakgaaGreatDoorW.PrintMore
set_option linter.unusedVariables false
set_option linter.unusedSimpArgs false
def smallSite (x : S52) : Bool := decide (x.f0.size ≤ 100) && decide (x.f6.length ≤ 10) && x.f6.all fun h => decide (h.size ≤ 100)
def smallB (l : List S52) : Bool := l.all smallSite && decide (l.length ≤ 12)
theorem rd_str (l : List ByteArray) (i : Nat) (h : i < l.length) : rdOf ByteArray.empty l (i : Int) = l[i] := by
  unfold rdOf
  rw [show ((i : Int)).toNat = i from by simp, List.getD_eq_getElem?_getD, List.getElem?_eq_getElem h]
  rfl
theorem small_l1 (l : List S52) (n j : Int) (hs : List ByteArray) (hh : hs.length ≤ 8796093022208) (m : List S52) : ∀ (d i k : Nat), hs.length - i = d → i ≤ hs.length →
    pantrymade_SmallSites.l1 (k + d + 1) l n j hs (hs.length : Int) (i : Int) m = if (hs.drop i).all (fun h => decide (h.size ≤ 100)) = true then pantrymade_SmallSites.l0 k l n (wrap64 (j + 1)) m else some false
  | 0, i, k, hd, hi => by
    have : i = hs.length := by omega
    subst this
    unfold pantrymade_SmallSites.l1
    rw [if_neg (by omega), List.drop_eq_nil_of_le (Nat.le_refl _)]
    simp
  | d + 1, i, k, hd, hi => by
    have hlt : i < hs.length := by omega
    unfold pantrymade_SmallSites.l1
    rw [if_pos (by omega), if_pos (by omega), if_pos (by omega), rd_str hs i hlt, List.drop_eq_getElem_cons hlt]
    by_cases hx : hs[i].size ≤ 100
    · rw [if_neg (by omega), List.all_cons, decide_eq_true hx, Bool.true_and]
      have hw : wrap64 ((i : Int) + 1) = ((i + 1 : Nat) : Int) := by unfold wrap64; omega
      rw [hw]
      exact small_l1 l n j hs hh m d (i + 1) k (by omega) (by omega)
    · rw [if_pos (by omega), List.all_cons, decide_eq_false hx, Bool.false_and]
      simp
theorem small_l0 (l : List S52) (hl : l.length ≤ 8796093022208) (hh : ∀ x ∈ l, x.f6.length ≤ 8796093022208) : ∀ (d i k : Nat), l.length - i = d → i ≤ l.length → 13 * d < k →
    pantrymade_SmallSites.l0 k l (l.length : Int) (i : Int) l = some ((l.drop i).all smallSite && decide (l.length ≤ 12))
  | _, _, 0, _, _, hk => by omega
  | 0, i, k + 1, hd, hi, hk => by
    have : i = l.length := by omega
    subst this
    unfold pantrymade_SmallSites.l0
    rw [if_neg (by omega), List.drop_eq_nil_of_le (Nat.le_refl _)]
    rw [List.all_nil, Bool.true_and]
    exact congrArg some (decide_eq_decide.2 (by omega))
  | d + 1, i, k + 1, hd, hi, hk => by
    have hlt : i < l.length := by omega
    unfold pantrymade_SmallSites.l0
    rw [if_pos (by omega), if_pos (by omega), if_pos (by omega), rd_at l i hlt, List.drop_eq_getElem_cons hlt, List.all_cons]
    obtain ⟨k, rfl⟩ : ∃ k', k = k' + 1 := ⟨k - 1, by omega⟩
    by_cases h1 : l[i].f0.size ≤ 100
    · rw [if_neg (by omega)]
      unfold pantrymade_SmallSites.j1
      by_cases h2 : l[i].f6.length ≤ 10
      · rw [if_neg (by simp; omega)]
        obtain ⟨k2, rfl⟩ : ∃ k2, k = k2 + (l[i].f6.length - 0) + 1 := ⟨k - l[i].f6.length - 1, by omega⟩
        have hx := small_l1 l (l.length : Int) (i : Int) l[i].f6 (hh _ (List.getElem_mem hlt)) l (l[i].f6.length - 0) 0 k2 rfl (Nat.zero_le _)
        rw [show ((0 : Nat) : Int) = 0 from rfl] at hx
        rw [hx, List.drop_zero]
        have hw : wrap64 ((i : Int) + 1) = ((i + 1 : Nat) : Int) := by unfold wrap64; omega
        by_cases h3 : l[i].f6.all (fun h => decide (h.size ≤ 100)) = true
        · rw [if_pos h3, hw, small_l0 l hl hh d (i + 1) k2 (by omega) (by omega) (by omega)]
          simp only [smallSite, h1, h2, h3, decide_true, Bool.true_and, Bool.and_true]
        · rw [if_neg h3]
          simp only [smallSite, Bool.eq_false_iff.2 h3, Bool.and_false, Bool.false_and]
      · rw [if_pos (by simp; omega)]
        simp only [smallSite, decide_eq_false h2, Bool.and_false, Bool.false_and]
    · rw [if_pos (by omega)]
      unfold pantrymade_SmallSites.j1
      rw [if_pos rfl]
      simp only [smallSite, decide_eq_false h1, Bool.false_and]
theorem small_of (l : List S52) (hl : l.length ≤ 8796093022208) (hh : ∀ x ∈ l, x.f6.length ≤ 8796093022208) (k : Nat) (hk : 13 * l.length < k) : pantrymade_SmallSites.f k l = some (smallB l) :=
  small_l0 l hl hh l.length 0 k rfl (Nat.zero_le _) hk
end Go.Proofs.YtcoaajkhfgakgaaGreatDoor.Pr
end

section
namespace Go.Proofs.YtcoaajkhfgakgaaGreatDoor.Pr
open Go.RowKit Go.Proofs.YtcoaajkhfgakgaaGreatDoorW.PrintWords Go.Proofs.YtcoaajkhfgakgaaGreatDoorW.PrintLast Go.Proofs.YtcoaajkhfgakgaaGreatDoorW.PrintMore
set_option linter.unusedVariables false
set_option linter.unusedSimpArgs false
theorem less_iff : ∀ a b : List UInt8, Op.bytesLess a b = decide (a < b)
  | [], [] => by simp [Op.bytesLess]
  | [], y :: b => by simp [Op.bytesLess]
  | x :: a, [] => by simp [Op.bytesLess]
  | x :: a, y :: b => by
    simp only [Op.bytesLess, less_iff a b]
    rw [Bool.eq_iff_iff]
    simp only [Bool.or_eq_true, Bool.and_eq_true, decide_eq_true_eq, beq_iff_eq, List.cons_lt_cons_iff]
theorem small_okSite {x : S52} (h : smallSite x = true) : okSite x = true ∧ fitS x = true := by
  unfold smallSite at h
  simp only [Bool.and_eq_true, decide_eq_true_eq, List.all_eq_true] at h
  obtain ⟨⟨h1, h2⟩, h3⟩ := h
  unfold okSite fitS smallHeads
  simp only [Bool.and_eq_true, decide_eq_true_eq, List.all_eq_true]
  exact ⟨⟨by omega, by omega, fun s hs => by have := h3 s hs; omega⟩, by omega, by omega⟩
theorem small_parts {l : List S52} (h : smallB l = true) : l.length ≤ 12 ∧ l.all okSite = true ∧ l.all fitS = true := by
  unfold smallB at h
  simp only [Bool.and_eq_true, decide_eq_true_eq, List.all_eq_true] at h
  exact ⟨h.2, List.all_eq_true.2 fun x hx => (small_okSite (h.1 x hx)).1, List.all_eq_true.2 fun x hx => (small_okSite (h.1 x hx)).2⟩
theorem right_of {l : List S52} (h : smallB l = true) : conf_Config_Right.f l = some (rightB l) := by
  obtain ⟨h1, h2, _⟩ := small_parts h
  unfold conf_Config_Right.f
  rw [if_pos ⟨by omega, h2⟩]
theorem diff_of {a b : List S52} (ha : smallB a = true) (hb : smallB b = true) : plan_diff.f a b = some (diffS a b) := by
  obtain ⟨h1, _, h2⟩ := small_parts ha
  obtain ⟨h3, _, h4⟩ := small_parts hb
  unfold plan_diff.f
  rw [if_pos ⟨by omega, by omega, h2, h4⟩]
theorem rightF_hosts : ∀ (l : List S52) (seen : List ByteArray), rightF l seen = true → (∀ x ∈ l, x.f0 ∉ seen) ∧ (l.map (·.f0)).Nodup
  | [], seen, _ => ⟨by simp, List.nodup_nil⟩
  | x :: l, seen, h => by
    unfold rightF at h
    simp only [Bool.and_eq_true, Bool.not_eq_true'] at h
    obtain ⟨⟨_, h1⟩, h2⟩ := h
    obtain ⟨h3, h4⟩ := rightF_hosts l _ h2
    have hx : x.f0 ∉ seen := fun hm => by
      have := (inB_iff x.f0 seen).2 hm
      rw [h1] at this
      cases this
    refine ⟨fun y hy => ?_, ?_⟩
    · rcases List.mem_cons.1 hy with rfl | hy
      · exact hx
      · exact fun hm => h3 y hy (List.mem_cons_of_mem _ hm)
    · rw [List.map_cons, List.nodup_cons]
      refine ⟨fun hm => ?_, h4⟩
      obtain ⟨y, hy, he⟩ := List.mem_map.1 hm
      exact h3 y hy (by rw [he]; exact List.mem_cons_self)
theorem right_nodup {l : List S52} (h : rightB l = true) : (l.map (·.f0)).Nodup := by
  unfold rightB at h
  rw [Bool.and_eq_true] at h
  exact (rightF_hosts l [] h.1).2
theorem find_unique : ∀ {l : List S52}, (l.map (·.f0)).Nodup → ∀ s ∈ l, findS s.f0 l = (s, true)
  | [], _, s, hs => by cases hs
  | y :: l, h, s, hs => by
    rw [List.map_cons, List.nodup_cons] at h
    unfold findS
    rcases List.mem_cons.1 hs with rfl | hs
    · rw [List.find?_cons_of_pos (by simp)]
    · have hne : y.f0 ≠ s.f0 := fun e => h.1 (List.mem_map.2 ⟨s, hs, e.symm⟩)
      rw [List.find?_cons_of_neg (by simp [hne])]
      have := find_unique h.2 s hs
      unfold findS at this
      exact this
theorem find_none {x : ByteArray} : ∀ {l : List S52}, (∀ s ∈ l, s.f0 ≠ x) → (findS x l).2 = false
  | [], _ => rfl
  | y :: l, h => by
    unfold findS
    rw [List.find?_cons_of_neg (by simp [h y (by simp)])]
    have := find_none (l := l) (fun s hs => h s (by simp [hs]))
    unfold findS at this
    exact this
theorem mem_take_last {α : Type} (l : List α) (k : Nat) (h : k < l.length) : l[k] ∈ l.take (k + 1) := by
  rw [List.take_succ_eq_append_getElem h]
  exact List.mem_append.2 (.inr (List.mem_singleton.2 rfl))
theorem mem_take_less {α : Type} {l : List α} {k : Nat} {s : α} (h : k < l.length) (hs : s ∈ l.take k) : s ∈ l.take (k + 1) := by
  rw [List.take_succ_eq_append_getElem h]
  exact List.mem_append.2 (.inl hs)
theorem lkI_cons (x : ByteArray) (p : ByteArray × Int) (r : List (ByteArray × Int)) : lkI x (p :: r) = if p.1 = x then p.2 else lkI x r := rfl
theorem lk_kA (x : ByteArray) (la : List S52) : ∀ k, k ≤ la.length → ((∃ s ∈ la.take k, s.f0 = x) → lkI x (kA la k) = 2) ∧ ((∀ s ∈ la.take k, s.f0 ≠ x) → lkI x (kA la k) = 0)
  | 0, _ => ⟨fun ⟨s, hs, _⟩ => by simp at hs, fun _ => rfl⟩
  | k + 1, hk => by
    have hlt : k < la.length := by omega
    obtain ⟨i1, i2⟩ := lk_kA x la k (by omega)
    have ht := List.take_succ_eq_append_getElem hlt
    rw [show kA la (k + 1) = ((rd_T52 la (k : Int)).f0, 2) :: kA la k from rfl, lkI_cons, rd_site la k hlt]
    by_cases he : la[k].f0 = x
    · rw [if_pos he]
      exact ⟨fun _ => rfl, fun h => absurd he (h la[k] (mem_take_last la k hlt))⟩
    · rw [if_neg he]
      refine ⟨fun ⟨s, hs, hx⟩ => i1 ⟨s, ?_, hx⟩, fun h => i2 (fun s hs => h s (mem_take_less hlt hs))⟩
      rw [ht, List.mem_append, List.mem_singleton] at hs
      rcases hs with hs | rfl
      · exact hs
      · exact absurd hx he
theorem lk_kB (x : ByteArray) (la lb : List S52) (hnd : (lb.map (·.f0)).Nodup) : ∀ k, k ≤ lb.length → (∀ s ∈ lb.take k, s.f0 = x → lkI x (kB la lb k) = kindOf la s) ∧ ((∀ s ∈ lb.take k, s.f0 ≠ x) → lkI x (kB la lb k) = lkI x (kA la la.length))
  | 0, _ => ⟨fun s hs => by simp at hs, fun _ => rfl⟩
  | k + 1, hk => by
    have hlt : k < lb.length := by omega
    obtain ⟨i1, i2⟩ := lk_kB x la lb hnd k (by omega)
    have ht := List.take_succ_eq_append_getElem hlt
    rw [show kB la lb (k + 1) = ((rd_T52 lb (k : Int)).f0, kindOf la (rd_T52 lb (k : Int))) :: kB la lb k from rfl, lkI_cons, rd_site lb k hlt]
    by_cases he : lb[k].f0 = x
    · rw [if_pos he]
      refine ⟨fun s hs hx => ?_, fun h => absurd he (h lb[k] (mem_take_last lb k hlt))⟩
      have e1 := find_unique hnd s (List.mem_of_mem_take hs)
      have e2 := find_unique hnd lb[k] (List.getElem_mem hlt)
      rw [hx] at e1
      rw [he] at e2
      rw [e2] at e1
      rw [(Prod.mk.inj e1).1]
    · rw [if_neg he]
      refine ⟨fun s hs hx => ?_, fun h => i2 (fun s hs => h s (mem_take_less hlt hs))⟩
      rw [ht, List.mem_append, List.mem_singleton] at hs
      rcases hs with hs | rfl
      · exact i1 s hs hx
      · exact absurd hx he
def kind2 (la lb : List S52) (x : ByteArray) : Int := lkI x (kB la lb lb.length)
section
variable {la lb : List S52} (hb : (lb.map (·.f0)).Nodup) (ha : (la.map (·.f0)).Nodup)
include hb in
theorem kind_in {s : S52} (hs : s ∈ lb) : kind2 la lb s.f0 = kindOf la s :=
  (lk_kB s.f0 la lb hb lb.length (Nat.le_refl _)).1 s (by rw [List.take_length]; exact hs) rfl
include hb in
theorem kind_out {x : ByteArray} (h : ∀ s ∈ lb, s.f0 ≠ x) : ((∃ s ∈ la, s.f0 = x) → kind2 la lb x = 2) ∧ ((∀ s ∈ la, s.f0 ≠ x) → kind2 la lb x = 0) := by
  unfold kind2
  rw [(lk_kB x la lb hb lb.length (Nat.le_refl _)).2 (by rw [List.take_length]; exact h)]
  have := lk_kA x la la.length (Nat.le_refl _)
  rw [List.take_length] at this
  exact this
theorem sameB_symm (o m x : Int) (q k : Bool) (hs : List ByteArray) (o' m' x' : Int) (q' k' : Bool) (hs' : List ByteArray) : sameB o m x q k hs o' m' x' q' k' hs' = sameB o' m' x' q' k' hs' o m x q k hs := by
  unfold sameB
  simp only [eq_comm]
theorem sameS_refl (s : S52) : sameS s s = true := by simp [sameS, sameB]
include hb ha in
theorem kind_turn {x : ByteArray} (h : (∃ s ∈ la, s.f0 = x) ∨ ∃ s ∈ lb, s.f0 = x) : (kind2 la lb x = 0 ∧ kind2 lb la x = 0) ∨ (kind2 la lb x = 1 ∧ kind2 lb la x = 1) ∨ (kind2 la lb x = 2 ∧ kind2 lb la x = 3) ∨ (kind2 la lb x = 3 ∧ kind2 lb la x = 2) := by
  by_cases h1 : ∃ s ∈ lb, s.f0 = x
  · obtain ⟨s, hs, rfl⟩ := h1
    have e1 := kind_in (la := la) hb hs
    by_cases h2 : ∃ t ∈ la, t.f0 = s.f0
    · obtain ⟨t, ht, he⟩ := h2
      have e2 := kind_in (la := lb) ha ht
      have f1 := find_unique ha t ht
      have f2 := find_unique hb s hs
      rw [he] at f1 e2
      unfold kindOf at e1 e2
      rw [f1] at e1
      rw [he, f2] at e2
      simp only [if_true] at e1 e2
      have hsy : sameS s t = sameS t s := sameB_symm ..
      rw [hsy] at e2
      by_cases h3 : sameS t s = true
      · rw [if_pos h3] at e1 e2
        exact .inl ⟨e1, e2⟩
      · rw [if_neg h3] at e1 e2
        exact .inr (.inl ⟨e1, e2⟩)
    · have hno : ∀ t ∈ la, t.f0 ≠ s.f0 := fun t ht he => h2 ⟨t, ht, he⟩
      unfold kindOf at e1
      rw [find_none hno, if_neg (by decide)] at e1
      exact .inr (.inr (.inr ⟨e1, (kind_out (la := lb) ha hno).1 ⟨s, hs, rfl⟩⟩))
  · have hno : ∀ s ∈ lb, s.f0 ≠ x := fun s hs he => h1 ⟨s, hs, he⟩
    rcases h with ⟨t, ht, rfl⟩ | h
    · have e2 := kind_in (la := lb) ha ht
      unfold kindOf at e2
      rw [find_none hno, if_neg (by decide)] at e2
      exact .inr (.inr (.inl ⟨(kind_out (la := la) hb hno).1 ⟨t, ht, rfl⟩, e2⟩))
    · exact absurd h h1
end
def hosts2 (la lb : List S52) : List (List UInt8) := sortedI (kB la lb lb.length)
theorem kA_any (la : List S52) (x : List UInt8) : ∀ k, k ≤ la.length → ((kA la k).any (fun p => decide (p.1.data.toList = x)) = true ↔ ∃ s ∈ la.take k, s.f0.data.toList = x)
  | 0, _ => by simp [kA]
  | k + 1, hk => by
    have hlt : k < la.length := by omega
    unfold kA
    rw [List.any_cons, Bool.or_eq_true, kA_any la x k (by omega), List.take_succ_eq_append_getElem hlt, rd_site la k hlt, decide_eq_true_eq]
    constructor
    · rintro (h | ⟨s, hs, h⟩)
      · exact ⟨la[k], List.mem_append.2 (.inr (List.mem_singleton.2 rfl)), h⟩
      · exact ⟨s, List.mem_append.2 (.inl hs), h⟩
    · rintro ⟨s, hs, h⟩
      rcases List.mem_append.1 hs with hs | hs
      · exact .inr ⟨s, hs, h⟩
      · rw [List.mem_singleton.1 hs] at h
        exact .inl h
theorem kB_any (la lb : List S52) (x : List UInt8) : ∀ k, k ≤ lb.length → ((kB la lb k).any (fun p => decide (p.1.data.toList = x)) = true ↔ (∃ s ∈ la, s.f0.data.toList = x) ∨ ∃ s ∈ lb.take k, s.f0.data.toList = x)
  | 0, _ => by
    unfold kB
    rw [kA_any la x la.length (Nat.le_refl _), List.take_length]
    simp
  | k + 1, hk => by
    have hlt : k < lb.length := by omega
    unfold kB
    rw [List.any_cons, Bool.or_eq_true, kB_any la lb x k (by omega), List.take_succ_eq_append_getElem hlt, rd_site lb k hlt, decide_eq_true_eq]
    constructor
    · rintro (h | h | ⟨s, hs, h⟩)
      · exact .inr ⟨lb[k], List.mem_append.2 (.inr (List.mem_singleton.2 rfl)), h⟩
      · exact .inl h
      · exact .inr ⟨s, List.mem_append.2 (.inl hs), h⟩
    · rintro (h | ⟨s, hs, h⟩)
      · exact .inr (.inl h)
      · rcases List.mem_append.1 hs with hs | hs
        · exact .inr (.inr ⟨s, hs, h⟩)
        · rw [List.mem_singleton.1 hs] at h
          exact .inl h
theorem hosts2_mem (la lb : List S52) (x : List UInt8) : x ∈ hosts2 la lb ↔ (∃ s ∈ la, s.f0.data.toList = x) ∨ ∃ s ∈ lb, s.f0.data.toList = x := by
  unfold hosts2 sortedI
  rw [List.mem_mergeSort, keysI_mem, kB_any la lb x lb.length (Nat.le_refl _), List.take_length]
theorem leB_trans : ∀ a b c : List UInt8, leB a b = true → leB b c = true → leB a c = true := fun a b c h1 h2 => by simp only [leB, decide_eq_true_eq] at *; exact List.le_trans h1 h2
theorem leB_total : ∀ a b : List UInt8, (leB a b || leB b a) = true := fun a b => by simp only [leB, Bool.or_eq_true, decide_eq_true_eq]; exact List.le_total a b
theorem hosts2_nodup (la lb : List S52) : (hosts2 la lb).Nodup := (List.mergeSort_perm _ _).nodup_iff.2 (keysI_nodup _)
theorem hosts2_rise (la lb : List S52) : (hosts2 la lb).Pairwise (fun a b => a < b) := by
  have h1 : (hosts2 la lb).Pairwise (fun a b => leB a b = true) := List.pairwise_mergeSort leB_trans leB_total _
  have h2 : (hosts2 la lb).Pairwise (fun a b => a ≠ b) := hosts2_nodup la lb
  refine (h1.and h2).imp (fun {a b} h => ?_)
  have h3 : a ≤ b := by have := h.1; simpa [leB] using this
  by_cases h4 : a < b
  · exact h4
  · exact absurd (List.le_antisymm h3 (List.not_lt.1 h4)) h.2
theorem rise_unique {l m : List (List UInt8)} (hl : l.Pairwise (fun a b => a < b)) (hm : m.Pairwise (fun a b => a < b)) (h : ∀ x, x ∈ l ↔ x ∈ m) : l = m := by
  have nd : ∀ {k : List (List UInt8)}, k.Pairwise (fun a b => a < b) → k.Nodup := fun hk => hk.imp (fun {a b} hab e => by rw [e] at hab; exact List.lt_irrefl _ hab)
  have hp : l.Perm m := (List.perm_ext_iff_of_nodup (nd hl) (nd hm)).2 h
  exact List.Perm.eq_of_pairwise (le := fun a b => a < b) (fun a b _ _ h1 h2 => absurd h2 (List.lt_asymm h1)) hl hm hp
theorem hosts2_turn (la lb : List S52) : hosts2 la lb = hosts2 lb la :=
  rise_unique (hosts2_rise la lb) (hosts2_rise lb la) (fun x => by rw [hosts2_mem, hosts2_mem, or_comm])
theorem diffS_eq (la lb : List S52) : diffS la lb = (hosts2 la lb).map (fun h => ⟨kind2 la lb (txt h), txt h⟩) := rfl
end Go.Proofs.YtcoaajkhfgakgaaGreatDoor.Pr
end

section
namespace Go.Proofs.YtcoaajkhfgakgaaGreatDoor.Pr
open Go.RowKit Go.Proofs.YtcoaajkhfgakgaaGreatDoorW.PrintWords Go.Proofs.YtcoaajkhfgakgaaGreatDoorW.PrintLast Go.Proofs.YtcoaajkhfgakgaaGreatDoorW.PrintMore
attribute [local go_sem] max2_int min2_int max_two min_two max_three min_three max_four min_four   -- for this text's walks alone
set_option linter.unusedVariables false
set_option linter.unusedSimpArgs false
theorem eqA40 (d : Nat) (w : World) (x0 y0 : Int) (x1 y1 : ByteArray) :
    (Op.equalIn (d + 2) 40 (.agg #[.int .i64 x0, .string x1]) (.agg #[.int .i64 y0, .string y1])).run Tryz.prog w = .ok (x0 == y0 && (x1.toList == y1.toList)) w := by
  refine eqA_of Tryz.underlying40 (by kernel_rfl) ?_
  refine eqf_cons (by rfl) (by go_simp; rfl) (by go_simp; rfl) (by go_simp) ?_
  exact eqf_last (by rfl) (by go_simp; rfl) (by go_simp; rfl) (by go_simp)
end Go.Proofs.YtcoaajkhfgakgaaGreatDoor.Pr
end

section
namespace Go.Proofs.YtcoaajkhfgakgaaGreatDoor.Pr
open Go.RowKit Go.Proofs.YtcoaajkhfgakgaaGreatDoorW.PrintWords Go.Proofs.YtcoaajkhfgakgaaGreatDoorW.PrintLast Go.Proofs.YtcoaajkhfgakgaaGreatDoorW.PrintMore
attribute [local go_sem] max2_int min2_int max_two min_two max_three min_three max_four min_four   -- for this text's walks alone
set_option linter.unusedVariables false
set_option linter.unusedSimpArgs false
def plan_Table_Config.l0 : Nat → List (S70) → Int → Int → List (S52) → Option ((List (S52)))
  | 0, _, _, _, _ => none
  | k + 1, x7, x8, x9, x104000 => if x9 < x8 then (if 0 ≤ x9 then (if x9 < (x7.length : Int) then ((slices_Clone_string_string.f ((rd_T70 x7 x9).f0.f6)).bind fun t106 => (if x104000.length < 1954687338268 then (plan_Table_Config.l0 k x7 x8 (wrap64 (x9 + 1)) (x104000 ++ [(⟨(rd_T70 x7 x9).f0.f0, (rd_T70 x7 x9).f0.f1, (rd_T70 x7 x9).f0.f2, (rd_T70 x7 x9).f0.f3, (rd_T70 x7 x9).f0.f4, (rd_T70 x7 x9).f0.f5, t106⟩ : S52)])) else (none))) else (none)) else (none)) else (some x104000)
def plan_Table_Config.f (k : Nat) (a0_0 : Int) (l0_1 : List (S70)) : Option ((List (S52))) := plan_Table_Config.l0 k l0_1 (l0_1.length : Int) 0 ([] : List (S52))
theorem plan_Table_Config.mono_l : ∀ k, (∀ y0 y1 y2 y3, LeO (plan_Table_Config.l0 k y0 y1 y2 y3) (plan_Table_Config.l0 (k + 1) y0 y1 y2 y3))
  | 0 => fun _ _ _ _ r h => by simp [plan_Table_Config.l0] at h
  | k + 1 => by
    have ih0 := plan_Table_Config.mono_l k
    · intro y0 y1 y2 y3
      unfold plan_Table_Config.l0
      repeat' first
      | (with_reducible exact ih0 _ _ _ _)
      | (with_reducible exact LeO.refl _)
      | (with_reducible exact LeO.none _)
      | (with_reducible refine LeO.ite ?_ ?_)
      | (with_reducible refine LeO.bind ?_ (fun _ => ?_))
      | exact ih0 _ _ _ _
      | exact LeO.none _
      | refine LeO.ite ?_ ?_
      | refine LeO.bind ?_ (fun _ => ?_)
theorem plan_Table_Config.mono : ∀ a0 a1 k, LeO (plan_Table_Config.f k a0 a1) (plan_Table_Config.f (k + 1) a0 a1) := by
  intro a0 a1 k
  have ih0 := plan_Table_Config.mono_l k
  unfold plan_Table_Config.f
  repeat' first
      | (with_reducible exact ih0 _ _ _ _)
      | (with_reducible exact LeO.refl _)
      | (with_reducible exact LeO.none _)
      | (with_reducible refine LeO.ite ?_ ?_)
      | (with_reducible refine LeO.bind ?_ (fun _ => ?_))
      | exact ih0 _ _ _ _
      | exact LeO.none _
      | refine LeO.ite ?_ ?_
      | refine LeO.bind ?_ (fun _ => ?_)
set_option maxHeartbeats 8000000 in
set_option maxRecDepth 100000 in
theorem plan_Table_Config.calls (k : Nat) (a0_0 : Int) (A0_1 : Option Addr) (c0_1 : Nat) (l0_1 : List (S70)) (r : List (S52)) (w : World) (hr0_1 : Kd.C k70 w A0_1 l0_1.length l0_1) (hc0_1 : l0_1.length ≤ c0_1) (h : plan_Table_Config.f k a0_0 l0_1 = some r) :
  Calls Tryz.prog 31 #[.agg #[.int .i64 a0_0, .slice A0_1 l0_1.length c0_1]] w fun e w' => ∃ v0_ : Value, e = .returned (.agg #[v0_]) ∧ Kd.S k52 52 w' w.heap.size (fun _ => True) v0_ r ∧ Below w.heap.size w w' := by
 have hu59 := Tryz.underlying59
 have hu24 := Tryz.underlying24
 have hu70 := Tryz.underlying70
 have hu52 := Tryz.underlying52
 have HR0_1 := Aside0.mk hr0_1
 have HC0_1 := Aside0.mk hc0_1
 clear hr0_1 hc0_1
 have HB := Aside0.mk (Below.refl w.heap.size w)
 have H : (plan_Table_Config.l0 k l0_1 (l0_1.length : Int) 0 ([] : List (S52))) = some r := h
 clear h
 have H' := Aside0.mk H
 clear H
 go_enter Tryz.func31, Tryz.ntmps31
 go_wp2_with (first | ((with_reducible refine gate_dst (N := 1) rfl ?_); refine box_event ?hg (N := 1) ?hd (cs := #[.int .i64 a0_0, .slice A0_1 l0_1.length c0_1]) (t := 59) ?hr ?_; (case hd => rfl); (case hg => rfl); (case hr => first | (go_simp; done) | (go_simp; rfl)); intro gb101 hg w2 hbox hb; have n0_ := Aside0.mk (below_step (by repeat (first | (with_reducible first | exact HB.out | apply below_alloc | apply pw_below_drewN | apply below_drew1) | exact HB.out)) hb); have n1_ := Aside0.mk (hbox); have n2_ := Aside0.mk ((by rw [hg]; exact (below_size (by repeat (first | (with_reducible first | exact HB.out | apply below_alloc | apply pw_below_drewN | apply below_drew1) | exact HB.out))) : w.heap.size ≤ gb101)); have n3_ := Aside0.mk ((by rw [hg]; exact (below_size (by repeat (first | (with_reducible first | exact HB.out | apply below_alloc | apply pw_below_drewN | apply below_drew1) | exact HB.out))) : w.heap.size ≤ gb101)); clear HB; have HB := n0_; have BK101 := n1_; have GW101 := n2_; have GE101 := n3_; clear n0_ n1_ n2_ n3_; clear hb hbox hg) | ((with_reducible refine gate_dst (N := 2) rfl ?_); refine box_event ?hg (N := 2) ?hd (cs := #[.slice none 0 0]) (t := 24) ?hr ?_; (case hd => rfl); (case hg => rfl); (case hr => first | (go_simp; done) | (go_simp; rfl)); intro gb102 hg w3 hbox hb; have n0_ := Aside0.mk (blk_below (g := gb101) (o := .cells #[.int .i64 a0_0, .slice A0_1 l0_1.length c0_1] 59 (0, 0)) (by (with_reducible repeat (first | refine zN ?_ _ | refine zD ?_ | refine zA ?_ _)); exact BK101.out) hb); have n1_ := Aside0.mk (below_step (by repeat (first | (with_reducible first | exact HB.out | apply below_alloc | apply pw_below_drewN | apply below_drew1 | refine below_set ?_ GE101.out) | exact HB.out)) hb); have n2_ := Aside0.mk (hbox); have n3_ := Aside0.mk ((by rw [hg]; exact (below_size (by repeat (first | (with_reducible first | exact HB.out | apply below_alloc | apply pw_below_drewN | apply below_drew1 | refine below_set ?_ GE101.out) | exact HB.out))) : w.heap.size ≤ gb102)); have n4_ := Aside0.mk ((by rw [hg]; exact (below_size (by repeat (first | (with_reducible first | exact HB.out | apply below_alloc | apply pw_below_drewN | apply below_drew1 | refine below_set ?_ GE101.out) | exact HB.out))) : w.heap.size ≤ gb102)); have n5_ := Aside0.mk ((by rw [hg]; exact Nat.ne_of_lt (blk_lt (g := gb101) (o := .cells #[.int .i64 a0_0, .slice A0_1 l0_1.length c0_1] 59 (0, 0)) (by (with_reducible repeat (first | refine zN ?_ _ | refine zD ?_ | refine zA ?_ _)); exact BK101.out)) : gb101 ≠ gb102)); have n6_ := Aside0.mk ((by rw [hg]; exact Nat.ne_of_gt (blk_lt (g := gb101) (o := .cells #[.int .i64 a0_0, .slice A0_1 l0_1.length c0_1] 59 (0, 0)) (by (with_reducible repeat (first | refine zN ?_ _ | refine zD ?_ | refine zA ?_ _)); exact BK101.out)) : gb102 ≠ gb101)); clear BK101; clear HB; have BK101 := n0_; have HB := n1_; have BK102 := n2_; have GW102 := n3_; have GE102 := n4_; have NB101_102 := n5_; have NB102_101 := n6_; clear n0_ n1_ n2_ n3_ n4_ n5_ n6_; clear hb hbox hg) | ((with_reducible refine gate_dst (N := 3) rfl ?_); refine box_event ?hg (N := 3) ?hd (cs := #[.slice none 0 0]) (t := 24) ?hr ?_; (case hd => rfl); (case hg => rfl); (case hr => first | (go_simp; done) | (go_simp; rfl)); intro gb103 hg w4 hbox hb; have n0_ := Aside0.mk (blk_below (g := gb101) (o := .cells #[.int .i64 a0_0, .slice A0_1 l0_1.length c0_1] 59 (0, 0)) (by (with_reducible repeat (first | refine zN ?_ _ | refine zD ?_ | refine zA ?_ _)); exact BK101.out) hb); have n1_ := Aside0.mk (blk_below (g := gb102) (o := .cells #[.slice none 0 0] 24 (0, 0)) (by (with_reducible repeat (first | refine zN ?_ _ | refine zD ?_ | refine zA ?_ _)); exact BK102.out) hb); have n2_ := Aside0.mk (below_step (by repeat (first | (with_reducible first | exact HB.out | apply below_alloc | apply pw_below_drewN | apply below_drew1 | refine below_set ?_ GE101.out | refine below_set ?_ GE102.out) | exact HB.out)) hb); have n3_ := Aside0.mk (hbox); have n4_ := Aside0.mk ((by rw [hg]; exact (below_size (by repeat (first | (with_reducible first | exact HB.out | apply below_alloc | apply pw_below_drewN | apply below_drew1 | refine below_set ?_ GE101.out | refine below_set ?_ GE102.out) | exact HB.out))) : w.heap.size ≤ gb103)); have n5_ := Aside0.mk ((by rw [hg]; exact (below_size (by repeat (first | (with_reducible first | exact HB.out | apply below_alloc | apply pw_below_drewN | apply below_drew1 | refine below_set ?_ GE101.out | refine below_set ?_ GE102.out) | exact HB.out))) : w.heap.size ≤ gb103)); have n6_ := Aside0.mk ((by rw [hg]; exact Nat.ne_of_lt (blk_lt (g := gb101) (o := .cells #[.int .i64 a0_0, .slice A0_1 l0_1.length c0_1] 59 (0, 0)) (by (with_reducible repeat (first | refine zN ?_ _ | refine zD ?_ | refine zA ?_ _)); exact BK101.out)) : gb101 ≠ gb103)); have n7_ := Aside0.mk ((by rw [hg]; exact Nat.ne_of_gt (blk_lt (g := gb101) (o := .cells #[.int .i64 a0_0, .slice A0_1 l0_1.length c0_1] 59 (0, 0)) (by (with_reducible repeat (first | refine zN ?_ _ | refine zD ?_ | refine zA ?_ _)); exact BK101.out)) : gb103 ≠ gb101)); have n8_ := Aside0.mk ((by rw [hg]; exact Nat.ne_of_lt (blk_lt (g := gb102) (o := .cells #[.slice none 0 0] 24 (0, 0)) (by (with_reducible repeat (first | refine zN ?_ _ | refine zD ?_ | refine zA ?_ _)); exact BK102.out)) : gb102 ≠ gb103)); have n9_ := Aside0.mk ((by rw [hg]; exact Nat.ne_of_gt (blk_lt (g := gb102) (o := .cells #[.slice none 0 0] 24 (0, 0)) (by (with_reducible repeat (first | refine zN ?_ _ | refine zD ?_ | refine zA ?_ _)); exact BK102.out)) : gb103 ≠ gb102)); clear BK101; clear BK102; clear HB; have BK101 := n0_; have BK102 := n1_; have HB := n2_; have BK103 := n3_; have GW103 := n4_; have GE103 := n5_; have NB101_103 := n6_; have NB103_101 := n7_; have NB102_103 := n8_; have NB103_102 := n9_; clear n0_ n1_ n2_ n3_ n4_ n5_ n6_ n7_ n8_ n9_; clear hb hbox hg; have hnb5 := NB101_102.out; have hnc5 := NB102_101.out; have hnb6 := NB101_103.out; have hnc6 := NB103_101.out; have hcz7_0 : w4.cell? ⟨gb101, 0, none⟩ = some (.int .i64 a0_0) := (blk_cell BK101.out 0).trans rfl; have hcz7_1 : w4.cell? ⟨gb101, 1, none⟩ = some (.slice A0_1 l0_1.length c0_1) := (blk_cell BK101.out 1).trans rfl; have hfz7_0 := blk_frozen BK101.out 0; have hfz7_1 := blk_frozen BK101.out 1))
 go_loopg [9] k (fun kq v9 w' => ∃ (x9_1 : Int) (x104000_1 : List (S52)) (u104000 : Value), v9 = .int .i64 x9_1 ∧ Aside0 (plan_Table_Config.l0 kq l0_1 (l0_1.length : Int) x9_1 x104000_1 = some r) ∧ Aside0 (kq ≤ k) ∧ Aside0 (Kd.S k52 52 w' w.heap.size (fun _ => True) u104000 x104000_1) ∧ Aside0 (w'.heap[gb101]? = some (.cells #[.int .i64 a0_0, (.slice A0_1 l0_1.length c0_1)] 59 (0, 0))) ∧ Aside0 (w'.heap[gb102]? = some (.cells #[(.slice none 0 0)] 24 (0, 0))) ∧ Aside0 (w'.heap[gb103]? = some (.cells #[u104000] 24 (0, 0))) ∧ Aside0 (Below w.heap.size w w'))
 case atStart => exact ⟨(0), (([] : List (S52))), (.slice none 0 0), (by first | rfl | (simp; done) | (simp [*]; done)), H', ⟨Nat.le_refl _⟩, ⟨by first | exact Kd.S_nil _ _ _ _ _ | exact Kd.N_nil _ _ _ _ _ | exact Kd.V_nil _ _ _ _ _ | exact Kd.Q_nil _ _ _ _ _ | exact Kd.R_nil _ _ _ _ _⟩, ⟨by (with_reducible repeat (first | refine zN ?_ _ | refine zD ?_ | refine zA ?_ _)); exact BK101.out⟩, ⟨by (with_reducible repeat (first | refine zN ?_ _ | refine zD ?_ | refine zA ?_ _)); exact BK102.out⟩, ⟨by (with_reducible repeat (first | refine zN ?_ _ | refine zD ?_ | refine zA ?_ _)); exact BK103.out⟩, ⟨by repeat (first | (with_reducible first | exact HB.out | apply below_alloc | apply pw_below_drewN | apply below_drew1 | refine below_set ?_ GE101.out | refine below_set ?_ GE102.out | refine below_set ?_ GE103.out) | exact HB.out)⟩⟩
 case round =>
  clear H'
  try clear p2
  try clear c3
  try clear c5
  try clear c6
  try clear hcz7_0
  try clear hcz7_1
  try clear hfz7_0
  try clear hfz7_1
  obtain ⟨x9_1, x104000_1, u104000, rfl, HA, HK1, HO_104000, BK101, BK102, BK103, HB⟩ := hrel
  cases gk with
  | zero => exact absurd HA.out (by simp [plan_Table_Config.l0])
  | succ k1 =>
   have H := HA.out
   clear HA
   simp only [plan_Table_Config.l0] at H
   by_cases c8 : x9_1 < (l0_1.length : Int)
   ·
    rw [if_pos c8] at H
    have c8b0 : decide (x9_1 < (l0_1.length : Int)) = true := decide_eq_true c8
    clear c8
    by_cases c9 : 0 ≤ x9_1
    ·
     rw [if_pos c9] at H
     have c9b0 : decide (0 ≤ x9_1) = true := decide_eq_true c9
     clear c9
     by_cases c10 : x9_1 < (l0_1.length : Int)
     ·
      rw [if_pos c10] at H
      have c10b0 : decide (x9_1 < (l0_1.length : Int)) = true := decide_eq_true c10
      clear c10
      replace H := Option.bind_eq_some_iff.mp H
      obtain ⟨t106, A110, H⟩ := H
      replace H : (if x104000_1.length < 1954687338268 then (plan_Table_Config.l0 k1 l0_1 (l0_1.length : Int) (wrap64 (x9_1 + 1)) (x104000_1 ++ [(⟨(rd_T70 l0_1 x9_1).f0.f0, (rd_T70 l0_1 x9_1).f0.f1, (rd_T70 l0_1 x9_1).f0.f2, (rd_T70 l0_1 x9_1).f0.f3, (rd_T70 l0_1 x9_1).f0.f4, (rd_T70 l0_1 x9_1).f0.f5, t106⟩ : S52)])) else (none)) = some r := H
      have A11 := Aside0.mk A110
      clear A110
      by_cases c12 : x104000_1.length < 1954687338268
      ·
       rw [if_pos c12] at H
       have LMc12 := Aside0.mk c12
       clear c12
       obtain ⟨y109, hy109⟩ : ∃ y_ : List (S52), y_ = (x104000_1 ++ [(⟨(rd_T70 l0_1 x9_1).f0.f0, (rd_T70 l0_1 x9_1).f0.f1, (rd_T70 l0_1 x9_1).f0.f2, (rd_T70 l0_1 x9_1).f0.f3, (rd_T70 l0_1 x9_1).f0.f4, (rd_T70 l0_1 x9_1).f0.f5, t106⟩ : S52)]) := ⟨_, rfl⟩
       replace H : (plan_Table_Config.l0 k1 l0_1 (l0_1.length : Int) (wrap64 (x9_1 + 1)) y109) = some r := by first | (rw [hy109]; with_reducible exact H) | (have H2_ := (Option.bind_some _ _).symm.trans H; rw [hy109]; with_reducible exact H2_) | (have H2_ := (Option.bind_some _ _).symm.trans H; with_reducible exact H2_) | with_reducible exact H | (rw [hy109]; exact H) | exact H
       have Ny109 := Aside0.mk hy109
       clear hy109
       have H' := Aside0.mk H
       clear H
       have p104 : 0 ≤ (x9_1 : Int) := of_decide_eq_true (by first | (with_reducible assumption) | assumption)
       have q104 : x9_1 < (l0_1.length : Int) := of_decide_eq_true (by first | (with_reducible assumption) | assumption)
       obtain ⟨ad104, A104_6, c104_6, e104, hx104_0, hx104_1, hx104_2, hx104_3, hx104_4, hx104_5, hx104_6, hx104_7, hl104_6, hi104_6⟩ := at_T70 HR0_1.out x9_1 p104 q104
       cases e104
       replace hx104_0 := (HB.out.cell (World.block_lt_of_cell? w _ hx104_0)).trans hx104_0
       replace hx104_1 := (HB.out.cell (World.block_lt_of_cell? w _ hx104_1)).trans hx104_1
       replace hx104_2 := (HB.out.cell (World.block_lt_of_cell? w _ hx104_2)).trans hx104_2
       replace hx104_3 := (HB.out.cell (World.block_lt_of_cell? w _ hx104_3)).trans hx104_3
       replace hx104_4 := (HB.out.cell (World.block_lt_of_cell? w _ hx104_4)).trans hx104_4
       replace hx104_5 := (HB.out.cell (World.block_lt_of_cell? w _ hx104_5)).trans hx104_5
       replace hx104_6 := (HB.out.cell (World.block_lt_of_cell? w _ hx104_6)).trans hx104_6
       replace hx104_7 := (HB.out.cell (World.block_lt_of_cell? w _ hx104_7)).trans hx104_7
       have HR104_6 := Aside0.mk hi104_6
       have HC104_6 := Aside0.mk hl104_6
       clear hi104_6 hl104_6
       replace p104 := eq_true p104
       replace q104 := eq_true q104
       go_wp2_with (first | ((with_reducible refine gate_dst (N := 5) rfl ?_); refine box_event ?hg (N := 5) ?hd (cs := #[.string (⟨#[]⟩ : ByteArray), .int .i64 0, .int .i64 0, .int .i64 0, .bool false, .bool false, .slice none 0 0, .int .i64 0]) (t := 70) ?hr ?_; (case hd => rfl); (case hg => rfl); (case hr => first | (go_simp; done) | (go_simp; rfl)); intro gb105 hg w13 hbox hb; have n0_ := Aside0.mk (Kd.S_below (by (with_reducible repeat (first | apply Kd.S_alloc | apply Kd.S_drewN | apply Kd.S_drew)); exact HO_104000.out) hb); have n1_ := Aside0.mk (blk_below (g := gb101) (o := .cells #[.int .i64 a0_0, .slice (some ad104) l0_1.length c0_1] 59 (0, 0)) (by (with_reducible repeat (first | refine zN ?_ _ | refine zD ?_ | refine zA ?_ _)); exact BK101.out) hb); have n2_ := Aside0.mk (blk_below (g := gb102) (o := .cells #[.slice none 0 0] 24 (0, 0)) (by (with_reducible repeat (first | refine zN ?_ _ | refine zD ?_ | refine zA ?_ _)); exact BK102.out) hb); have n3_ := Aside0.mk (blk_below (g := gb103) (o := .cells #[u104000] 24 (0, 0)) (by (with_reducible repeat (first | refine zN ?_ _ | refine zD ?_ | refine zA ?_ _)); exact BK103.out) hb); have n4_ := Aside0.mk (below_step (by repeat (first | (with_reducible first | exact HB.out | apply below_alloc | apply pw_below_drewN | apply below_drew1 | refine below_set ?_ GE101.out | refine below_set ?_ GE102.out | refine below_set ?_ GE103.out) | exact HB.out)) hb); have n5_ := Aside0.mk (hbox); have n6_ := Aside0.mk ((by rw [hg]; exact (below_size (by repeat (first | (with_reducible first | exact HB.out | apply below_alloc | apply pw_below_drewN | apply below_drew1 | refine below_set ?_ GE101.out | refine below_set ?_ GE102.out | refine below_set ?_ GE103.out) | exact HB.out))) : w.heap.size ≤ gb105)); have n7_ := Aside0.mk ((by rw [hg]; exact (below_size (by repeat (first | (with_reducible first | exact HB.out | apply below_alloc | apply pw_below_drewN | apply below_drew1 | refine below_set ?_ GE101.out | refine below_set ?_ GE102.out | refine below_set ?_ GE103.out) | exact HB.out))) : w.heap.size ≤ gb105)); have n8_ := Aside0.mk ((by rw [hg]; exact Nat.ne_of_lt (blk_lt (g := gb101) (o := .cells #[.int .i64 a0_0, .slice (some ad104) l0_1.length c0_1] 59 (0, 0)) (by (with_reducible repeat (first | refine zN ?_ _ | refine zD ?_ | refine zA ?_ _)); exact BK101.out)) : gb101 ≠ gb105)); have n9_ := Aside0.mk ((by rw [hg]; exact Nat.ne_of_gt (blk_lt (g := gb101) (o := .cells #[.int .i64 a0_0, .slice (some ad104) l0_1.length c0_1] 59 (0, 0)) (by (with_reducible repeat (first | refine zN ?_ _ | refine zD ?_ | refine zA ?_ _)); exact BK101.out)) : gb105 ≠ gb101)); have n10_ := Aside0.mk ((by rw [hg]; exact Nat.ne_of_lt (blk_lt (g := gb102) (o := .cells #[.slice none 0 0] 24 (0, 0)) (by (with_reducible repeat (first | refine zN ?_ _ | refine zD ?_ | refine zA ?_ _)); exact BK102.out)) : gb102 ≠ gb105)); have n11_ := Aside0.mk ((by rw [hg]; exact Nat.ne_of_gt (blk_lt (g := gb102) (o := .cells #[.slice none 0 0] 24 (0, 0)) (by (with_reducible repeat (first | refine zN ?_ _ | refine zD ?_ | refine zA ?_ _)); exact BK102.out)) : gb105 ≠ gb102)); have n12_ := Aside0.mk ((by rw [hg]; exact Nat.ne_of_lt (blk_lt (g := gb103) (o := .cells #[u104000] 24 (0, 0)) (by (with_reducible repeat (first | refine zN ?_ _ | refine zD ?_ | refine zA ?_ _)); exact BK103.out)) : gb103 ≠ gb105)); have n13_ := Aside0.mk ((by rw [hg]; exact Nat.ne_of_gt (blk_lt (g := gb103) (o := .cells #[u104000] 24 (0, 0)) (by (with_reducible repeat (first | refine zN ?_ _ | refine zD ?_ | refine zA ?_ _)); exact BK103.out)) : gb105 ≠ gb103)); clear HO_104000; clear BK101; clear BK102; clear BK103; clear HB; have HO_104000 := n0_; have BK101 := n1_; have BK102 := n2_; have BK103 := n3_; have HB := n4_; have BK105 := n5_; have GW105 := n6_; have GE105 := n7_; have NB101_105 := n8_; have NB105_101 := n9_; have NB102_105 := n10_; have NB105_102 := n11_; have NB103_105 := n12_; have NB105_103 := n13_; clear n0_ n1_ n2_ n3_ n4_ n5_ n6_ n7_ n8_ n9_ n10_ n11_ n12_ n13_; clear hb hbox hg; have hnb14 := NB105_101.out; have hnc14 := NB101_105.out; have hnb15 := NB105_102.out; have hnc15 := NB102_105.out; have hnb16 := NB105_103.out; have hnc16 := NB103_105.out; have hcz17_0 : w13.cell? ⟨gb105, 0, none⟩ = some (.string (⟨#[]⟩ : ByteArray)) := (blk_cell BK105.out 0).trans rfl; have hcz17_1 : w13.cell? ⟨gb105, 1, none⟩ = some (.int .i64 0) := (blk_cell BK105.out 1).trans rfl; have hcz17_2 : w13.cell? ⟨gb105, 2, none⟩ = some (.int .i64 0) := (blk_cell BK105.out 2).trans rfl; have hcz17_3 : w13.cell? ⟨gb105, 3, none⟩ = some (.int .i64 0) := (blk_cell BK105.out 3).trans rfl; have hcz17_4 : w13.cell? ⟨gb105, 4, none⟩ = some (.bool false) := (blk_cell BK105.out 4).trans rfl; have hcz17_5 : w13.cell? ⟨gb105, 5, none⟩ = some (.bool false) := (blk_cell BK105.out 5).trans rfl; have hcz17_6 : w13.cell? ⟨gb105, 6, none⟩ = some (.slice none 0 0) := (blk_cell BK105.out 6).trans rfl; have hcz17_7 : w13.cell? ⟨gb105, 7, none⟩ = some (.int .i64 0) := (blk_cell BK105.out 7).trans rfl; have hfz17_0 := blk_frozen BK105.out 0; have hfz17_1 := blk_frozen BK105.out 1; have hfz17_2 := blk_frozen BK105.out 2; have hfz17_3 := blk_frozen BK105.out 3; have hfz17_4 := blk_frozen BK105.out 4; have hfz17_5 := blk_frozen BK105.out 5; have hfz17_6 := blk_frozen BK105.out 6; have hfz17_7 := blk_frozen BK105.out 7) | ((with_reducible refine gate_callee (f := 62) rfl ?_); refine goesL_ (some 16) rfl rfl Tryz.func62 (by kernel_rfl) rfl #[.slice A104_6 ((rd_T70 l0_1 x9_1).f0.f6).length c104_6] rfl (by (try simp only [List.map_toArray, List.map_cons, List.map_nil]); first | done | rfl | (simp only [List.length_drop, List.length_take]; rfl)) ?_; (with_reducible refine (slices_Clone_string_string.calls _ _ ((rd_T70 l0_1 x9_1).f0.f6) t106 _ ?side1 ?side2 A11.out).mono ?_); (case side1 => exact Kd.C_below HR104_6.out (by repeat (first | (with_reducible first | exact HB.out | apply below_alloc | apply pw_below_drewN | apply below_drew1 | refine below_set ?_ GE101.out | refine below_set ?_ GE102.out | refine below_set ?_ GE103.out | refine below_set ?_ GE105.out) | exact HB.out))); (case side2 => exact HC104_6.out); rintro e w18 ⟨v107, rfl, ho0, hb⟩; refine ⟨_, rfl, ?_⟩; have n0_ := Aside0.mk (Kd.S_elder' (by (with_reducible repeat (first | apply Kd.S_alloc | apply Kd.S_drewN | apply Kd.S_drew)); exact (Kd.S_mono (Kd.S_far (p := ⟨gb105, 7, none⟩) (Kd.S_far (p := ⟨gb105, 6, none⟩) (Kd.S_far (p := ⟨gb105, 5, none⟩) (Kd.S_far (p := ⟨gb105, 4, none⟩) (Kd.S_far (p := ⟨gb105, 3, none⟩) (Kd.S_far (p := ⟨gb105, 2, none⟩) (Kd.S_far (p := ⟨gb105, 1, none⟩) (Kd.S_far (p := ⟨gb105, 0, none⟩) (Kd.S_types HO_104000.out BK105.out (by decide)) (fun _ hk => hk.2) (.string ((rd_T70 l0_1 x9_1).f0.f0))) (fun _ hk => hk.2) (.int .i64 ((rd_T70 l0_1 x9_1).f0.f1))) (fun _ hk => hk.2) (.int .i64 ((rd_T70 l0_1 x9_1).f0.f2))) (fun _ hk => hk.2) (.int .i64 ((rd_T70 l0_1 x9_1).f0.f3))) (fun _ hk => hk.2) (.bool ((rd_T70 l0_1 x9_1).f0.f4))) (fun _ hk => hk.2) (.bool ((rd_T70 l0_1 x9_1).f0.f5))) (fun _ hk => hk.2) (.slice A104_6 ((rd_T70 l0_1 x9_1).f0.f6).length c104_6)) (fun _ hk => hk.2) (.int .i64 ((rd_T70 l0_1 x9_1).f1))) (fun _ h_ => h_.1))) (Kd.R_base ho0) hb); have n1_ := Aside0.mk (Kd.R_lower ho0 (below_size (by repeat (first | (with_reducible first | exact HB.out | apply below_alloc | apply pw_below_drewN | apply below_drew1 | refine below_set ?_ GE101.out | refine below_set ?_ GE102.out | refine below_set ?_ GE103.out | refine below_set ?_ GE105.out) | exact HB.out)))); have n2_ := Aside0.mk (blk_below (g := gb101) (o := .cells #[.int .i64 a0_0, .slice (some ad104) l0_1.length c0_1] 59 (0, 0)) (by (with_reducible repeat (first | refine zN ?_ _ | refine zD ?_ | refine zA ?_ _)); refine blk_far ?_ NB101_105.out _; (with_reducible repeat (first | refine zN ?_ _ | refine zD ?_ | refine zA ?_ _)); refine blk_far ?_ NB101_105.out _; (with_reducible repeat (first | refine zN ?_ _ | refine zD ?_ | refine zA ?_ _)); refine blk_far ?_ NB101_105.out _; (with_reducible repeat (first | refine zN ?_ _ | refine zD ?_ | refine zA ?_ _)); refine blk_far ?_ NB101_105.out _; (with_reducible repeat (first | refine zN ?_ _ | refine zD ?_ | refine zA ?_ _)); refine blk_far ?_ NB101_105.out _; (with_reducible repeat (first | refine zN ?_ _ | refine zD ?_ | refine zA ?_ _)); refine blk_far ?_ NB101_105.out _; (with_reducible repeat (first | refine zN ?_ _ | refine zD ?_ | refine zA ?_ _)); refine blk_far ?_ NB101_105.out _; (with_reducible repeat (first | refine zN ?_ _ | refine zD ?_ | refine zA ?_ _)); refine blk_far ?_ NB101_105.out _; (with_reducible repeat (first | refine zN ?_ _ | refine zD ?_ | refine zA ?_ _)); exact BK101.out) hb); have n3_ := Aside0.mk (blk_below (g := gb102) (o := .cells #[.slice none 0 0] 24 (0, 0)) (by (with_reducible repeat (first | refine zN ?_ _ | refine zD ?_ | refine zA ?_ _)); refine blk_far ?_ NB102_105.out _; (with_reducible repeat (first | refine zN ?_ _ | refine zD ?_ | refine zA ?_ _)); refine blk_far ?_ NB102_105.out _; (with_reducible repeat (first | refine zN ?_ _ | refine zD ?_ | refine zA ?_ _)); refine blk_far ?_ NB102_105.out _; (with_reducible repeat (first | refine zN ?_ _ | refine zD ?_ | refine zA ?_ _)); refine blk_far ?_ NB102_105.out _; (with_reducible repeat (first | refine zN ?_ _ | refine zD ?_ | refine zA ?_ _)); refine blk_far ?_ NB102_105.out _; (with_reducible repeat (first | refine zN ?_ _ | refine zD ?_ | refine zA ?_ _)); refine blk_far ?_ NB102_105.out _; (with_reducible repeat (first | refine zN ?_ _ | refine zD ?_ | refine zA ?_ _)); refine blk_far ?_ NB102_105.out _; (with_reducible repeat (first | refine zN ?_ _ | refine zD ?_ | refine zA ?_ _)); refine blk_far ?_ NB102_105.out _; (with_reducible repeat (first | refine zN ?_ _ | refine zD ?_ | refine zA ?_ _)); exact BK102.out) hb); have n4_ := Aside0.mk (blk_below (g := gb103) (o := .cells #[u104000] 24 (0, 0)) (by (with_reducible repeat (first | refine zN ?_ _ | refine zD ?_ | refine zA ?_ _)); refine blk_far ?_ NB103_105.out _; (with_reducible repeat (first | refine zN ?_ _ | refine zD ?_ | refine zA ?_ _)); refine blk_far ?_ NB103_105.out _; (with_reducible repeat (first | refine zN ?_ _ | refine zD ?_ | refine zA ?_ _)); refine blk_far ?_ NB103_105.out _; (with_reducible repeat (first | refine zN ?_ _ | refine zD ?_ | refine zA ?_ _)); refine blk_far ?_ NB103_105.out _; (with_reducible repeat (first | refine zN ?_ _ | refine zD ?_ | refine zA ?_ _)); refine blk_far ?_ NB103_105.out _; (with_reducible repeat (first | refine zN ?_ _ | refine zD ?_ | refine zA ?_ _)); refine blk_far ?_ NB103_105.out _; (with_reducible repeat (first | refine zN ?_ _ | refine zD ?_ | refine zA ?_ _)); refine blk_far ?_ NB103_105.out _; (with_reducible repeat (first | refine zN ?_ _ | refine zD ?_ | refine zA ?_ _)); refine blk_far ?_ NB103_105.out _; (with_reducible repeat (first | refine zN ?_ _ | refine zD ?_ | refine zA ?_ _)); exact BK103.out) hb); have n5_ := Aside0.mk (blk_below (g := gb105) (o := .cells #[.string ((rd_T70 l0_1 x9_1).f0.f0), .int .i64 ((rd_T70 l0_1 x9_1).f0.f1), .int .i64 ((rd_T70 l0_1 x9_1).f0.f2), .int .i64 ((rd_T70 l0_1 x9_1).f0.f3), .bool ((rd_T70 l0_1 x9_1).f0.f4), .bool ((rd_T70 l0_1 x9_1).f0.f5), .slice A104_6 ((rd_T70 l0_1 x9_1).f0.f6).length c104_6, .int .i64 ((rd_T70 l0_1 x9_1).f1)] 70 (0, 0)) (by (with_reducible repeat (first | refine zN ?_ _ | refine zD ?_ | refine zA ?_ _)); refine blk_put (cs := #[.string ((rd_T70 l0_1 x9_1).f0.f0), .int .i64 ((rd_T70 l0_1 x9_1).f0.f1), .int .i64 ((rd_T70 l0_1 x9_1).f0.f2), .int .i64 ((rd_T70 l0_1 x9_1).f0.f3), .bool ((rd_T70 l0_1 x9_1).f0.f4), .bool ((rd_T70 l0_1 x9_1).f0.f5), .slice A104_6 ((rd_T70 l0_1 x9_1).f0.f6).length c104_6, .int .i64 0]) ?_ 7 _ rfl; (with_reducible repeat (first | refine zN ?_ _ | refine zD ?_ | refine zA ?_ _)); refine blk_put (cs := #[.string ((rd_T70 l0_1 x9_1).f0.f0), .int .i64 ((rd_T70 l0_1 x9_1).f0.f1), .int .i64 ((rd_T70 l0_1 x9_1).f0.f2), .int .i64 ((rd_T70 l0_1 x9_1).f0.f3), .bool ((rd_T70 l0_1 x9_1).f0.f4), .bool ((rd_T70 l0_1 x9_1).f0.f5), .slice none 0 0, .int .i64 0]) ?_ 6 _ rfl; (with_reducible repeat (first | refine zN ?_ _ | refine zD ?_ | refine zA ?_ _)); refine blk_put (cs := #[.string ((rd_T70 l0_1 x9_1).f0.f0), .int .i64 ((rd_T70 l0_1 x9_1).f0.f1), .int .i64 ((rd_T70 l0_1 x9_1).f0.f2), .int .i64 ((rd_T70 l0_1 x9_1).f0.f3), .bool ((rd_T70 l0_1 x9_1).f0.f4), .bool false, .slice none 0 0, .int .i64 0]) ?_ 5 _ rfl; (with_reducible repeat (first | refine zN ?_ _ | refine zD ?_ | refine zA ?_ _)); refine blk_put (cs := #[.string ((rd_T70 l0_1 x9_1).f0.f0), .int .i64 ((rd_T70 l0_1 x9_1).f0.f1), .int .i64 ((rd_T70 l0_1 x9_1).f0.f2), .int .i64 ((rd_T70 l0_1 x9_1).f0.f3), .bool false, .bool false, .slice none 0 0, .int .i64 0]) ?_ 4 _ rfl; (with_reducible repeat (first | refine zN ?_ _ | refine zD ?_ | refine zA ?_ _)); refine blk_put (cs := #[.string ((rd_T70 l0_1 x9_1).f0.f0), .int .i64 ((rd_T70 l0_1 x9_1).f0.f1), .int .i64 ((rd_T70 l0_1 x9_1).f0.f2), .int .i64 0, .bool false, .bool false, .slice none 0 0, .int .i64 0]) ?_ 3 _ rfl; (with_reducible repeat (first | refine zN ?_ _ | refine zD ?_ | refine zA ?_ _)); refine blk_put (cs := #[.string ((rd_T70 l0_1 x9_1).f0.f0), .int .i64 ((rd_T70 l0_1 x9_1).f0.f1), .int .i64 0, .int .i64 0, .bool false, .bool false, .slice none 0 0, .int .i64 0]) ?_ 2 _ rfl; (with_reducible repeat (first | refine zN ?_ _ | refine zD ?_ | refine zA ?_ _)); refine blk_put (cs := #[.string ((rd_T70 l0_1 x9_1).f0.f0), .int .i64 0, .int .i64 0, .int .i64 0, .bool false, .bool false, .slice none 0 0, .int .i64 0]) ?_ 1 _ rfl; (with_reducible repeat (first | refine zN ?_ _ | refine zD ?_ | refine zA ?_ _)); refine blk_put (cs := #[.string (⟨#[]⟩ : ByteArray), .int .i64 0, .int .i64 0, .int .i64 0, .bool false, .bool false, .slice none 0 0, .int .i64 0]) ?_ 0 _ rfl; (with_reducible repeat (first | refine zN ?_ _ | refine zD ?_ | refine zA ?_ _)); exact BK105.out) hb); have n6_ := Aside0.mk (below_step (by repeat (first | (with_reducible first | exact HB.out | apply below_alloc | apply pw_below_drewN | apply below_drew1 | refine below_set ?_ GE101.out | refine below_set ?_ GE102.out | refine below_set ?_ GE103.out | refine below_set ?_ GE105.out) | exact HB.out)) hb); clear HO_104000; clear BK101; clear BK102; clear BK103; clear BK105; clear HB; have HO_104000 := n0_; have HO108 := n1_; have BK101 := n2_; have BK102 := n3_; have BK103 := n4_; have BK105 := n5_; have HB := n6_; clear n0_ n1_ n2_ n3_ n4_ n5_ n6_; (try clear hb); (try clear hb2); (try clear hk); (try clear hi); (try clear ho0); obtain ⟨Ao19, co19, eo19⟩ := Kd.R_slice HO108.out; subst eo19; have hcz20_0 : w18.cell? ⟨gb105, 0, none⟩ = some (.string ((rd_T70 l0_1 x9_1).f0.f0)) := (blk_cell BK105.out 0).trans rfl; have hcz20_1 : w18.cell? ⟨gb105, 1, none⟩ = some (.int .i64 ((rd_T70 l0_1 x9_1).f0.f1)) := (blk_cell BK105.out 1).trans rfl; have hcz20_2 : w18.cell? ⟨gb105, 2, none⟩ = some (.int .i64 ((rd_T70 l0_1 x9_1).f0.f2)) := (blk_cell BK105.out 2).trans rfl; have hcz20_3 : w18.cell? ⟨gb105, 3, none⟩ = some (.int .i64 ((rd_T70 l0_1 x9_1).f0.f3)) := (blk_cell BK105.out 3).trans rfl; have hcz20_4 : w18.cell? ⟨gb105, 4, none⟩ = some (.bool ((rd_T70 l0_1 x9_1).f0.f4)) := (blk_cell BK105.out 4).trans rfl; have hcz20_5 : w18.cell? ⟨gb105, 5, none⟩ = some (.bool ((rd_T70 l0_1 x9_1).f0.f5)) := (blk_cell BK105.out 5).trans rfl; have hcz20_6 : w18.cell? ⟨gb105, 6, none⟩ = some (.slice A104_6 ((rd_T70 l0_1 x9_1).f0.f6).length c104_6) := (blk_cell BK105.out 6).trans rfl; have hcz20_7 : w18.cell? ⟨gb105, 7, none⟩ = some (.int .i64 ((rd_T70 l0_1 x9_1).f1)) := (blk_cell BK105.out 7).trans rfl; have hfz20_0 := blk_frozen BK105.out 0; have hfz20_1 := blk_frozen BK105.out 1; have hfz20_2 := blk_frozen BK105.out 2; have hfz20_3 := blk_frozen BK105.out 3; have hfz20_4 := blk_frozen BK105.out 4; have hfz20_5 := blk_frozen BK105.out 5; have hfz20_6 := blk_frozen BK105.out 6; have hfz20_7 := blk_frozen BK105.out 7) | ((with_reducible refine gate_store (t := 50) (p := 18) rfl ?_); refine store_event (t := 50) (p := 18) (v := ?vo_w21) (w1 := (w18.setCell ⟨gb105, 6, none⟩ (.slice Ao19 t106.length co19))) ?hg ?ho ?hn ?hr ?_; (case ho => rfl); (case hg => rfl); (case hn => rfl); (case hr => first | (go_simp; done) | (go_simp; rfl)); intro w21 hw; have n0_ : Aside0 (Kd.S k52 52 w21 w.heap.size (fun k_ => some k_ ≠ (.slice Ao19 t106.length co19 : Value).ownBlock) u104000 x104000_1) := ⟨(by rw [hw]; exact (by (with_reducible repeat (first | apply Kd.S_alloc | apply Kd.S_drewN | apply Kd.S_drew)); exact Kd.S_mono (Kd.S_far (p := ⟨gb105, 6, none⟩) (Kd.S_types HO_104000.out BK105.out (by decide)) (fun _ hk => hk.2) (.slice Ao19 t106.length co19)) (fun _ hk => hk.1.2)))⟩; have n1_ : Aside0 (Kd.R Kd.string 9 w21 w.heap.size (fun _ => True) (.slice Ao19 t106.length co19) t106) := ⟨(by rw [hw]; exact (by (with_reducible repeat (first | apply Kd.R_alloc | apply Kd.R_drewN | apply Kd.R_drew)); exact Kd.R_mono (Kd.R_far (p := ⟨gb105, 6, none⟩) (Kd.R_types HO108.out BK105.out (by decide)) (fun _ hk => hk.2) (.slice Ao19 t106.length co19)) (fun _ hk => trivial)))⟩; have n2_ : Aside0 (w21.heap[gb101]? = some (.cells #[.int .i64 a0_0, .slice (some ad104) l0_1.length c0_1] 59 (0, 0))) := ⟨(by rw [hw]; exact (by (with_reducible repeat (first | refine zN ?_ _ | refine zD ?_ | refine zA ?_ _)); refine blk_far ?_ NB101_105.out _; (with_reducible repeat (first | refine zN ?_ _ | refine zD ?_ | refine zA ?_ _)); exact BK101.out))⟩; have n3_ : Aside0 (w21.heap[gb102]? = some (.cells #[.slice none 0 0] 24 (0, 0))) := ⟨(by rw [hw]; exact (by (with_reducible repeat (first | refine zN ?_ _ | refine zD ?_ | refine zA ?_ _)); refine blk_far ?_ NB102_105.out _; (with_reducible repeat (first | refine zN ?_ _ | refine zD ?_ | refine zA ?_ _)); exact BK102.out))⟩; have n4_ : Aside0 (w21.heap[gb103]? = some (.cells #[u104000] 24 (0, 0))) := ⟨(by rw [hw]; exact (by (with_reducible repeat (first | refine zN ?_ _ | refine zD ?_ | refine zA ?_ _)); refine blk_far ?_ NB103_105.out _; (with_reducible repeat (first | refine zN ?_ _ | refine zD ?_ | refine zA ?_ _)); exact BK103.out))⟩; have n5_ : Aside0 (w21.heap[gb105]? = some (.cells #[.string ((rd_T70 l0_1 x9_1).f0.f0), .int .i64 ((rd_T70 l0_1 x9_1).f0.f1), .int .i64 ((rd_T70 l0_1 x9_1).f0.f2), .int .i64 ((rd_T70 l0_1 x9_1).f0.f3), .bool ((rd_T70 l0_1 x9_1).f0.f4), .bool ((rd_T70 l0_1 x9_1).f0.f5), .slice Ao19 t106.length co19, .int .i64 ((rd_T70 l0_1 x9_1).f1)] 70 (0, 0))) := ⟨(by rw [hw]; exact (by (with_reducible repeat (first | refine zN ?_ _ | refine zD ?_ | refine zA ?_ _)); refine blk_put (cs := #[.string ((rd_T70 l0_1 x9_1).f0.f0), .int .i64 ((rd_T70 l0_1 x9_1).f0.f1), .int .i64 ((rd_T70 l0_1 x9_1).f0.f2), .int .i64 ((rd_T70 l0_1 x9_1).f0.f3), .bool ((rd_T70 l0_1 x9_1).f0.f4), .bool ((rd_T70 l0_1 x9_1).f0.f5), .slice A104_6 ((rd_T70 l0_1 x9_1).f0.f6).length c104_6, .int .i64 ((rd_T70 l0_1 x9_1).f1)]) ?_ 6 _ rfl; (with_reducible repeat (first | refine zN ?_ _ | refine zD ?_ | refine zA ?_ _)); exact BK105.out))⟩; have n6_ : Aside0 (Below w.heap.size w w21) := ⟨(by rw [hw]; exact (by repeat (first | (with_reducible first | exact HB.out | apply below_alloc | apply pw_below_drewN | apply below_drew1 | refine below_set ?_ GE101.out | refine below_set ?_ GE102.out | refine below_set ?_ GE103.out | refine below_set ?_ GE105.out) | exact HB.out)))⟩; clear hw; clear HO_104000; clear HO108; clear BK101; clear BK102; clear BK103; clear BK105; clear HB; have HO_104000 := n0_; have HO108 := n1_; have BK101 := n2_; have BK102 := n3_; have BK103 := n4_; have BK105 := n5_; have HB := n6_; clear n0_ n1_ n2_ n3_ n4_ n5_ n6_; have hnb22 := NB103_101.out; have hnc22 := NB101_103.out; have hnb23 := NB103_102.out; have hnc23 := NB102_103.out; have hcz24_0 : w21.cell? ⟨gb103, 0, none⟩ = some (u104000) := (blk_cell BK103.out 0).trans rfl; have hfz24_0 := blk_frozen BK103.out 0; have hcz25_0 : w21.cell? ⟨gb105, 0, none⟩ = some (.string ((rd_T70 l0_1 x9_1).f0.f0)) := (blk_cell BK105.out 0).trans rfl; have hcz25_1 : w21.cell? ⟨gb105, 1, none⟩ = some (.int .i64 ((rd_T70 l0_1 x9_1).f0.f1)) := (blk_cell BK105.out 1).trans rfl; have hcz25_2 : w21.cell? ⟨gb105, 2, none⟩ = some (.int .i64 ((rd_T70 l0_1 x9_1).f0.f2)) := (blk_cell BK105.out 2).trans rfl; have hcz25_3 : w21.cell? ⟨gb105, 3, none⟩ = some (.int .i64 ((rd_T70 l0_1 x9_1).f0.f3)) := (blk_cell BK105.out 3).trans rfl; have hcz25_4 : w21.cell? ⟨gb105, 4, none⟩ = some (.bool ((rd_T70 l0_1 x9_1).f0.f4)) := (blk_cell BK105.out 4).trans rfl; have hcz25_5 : w21.cell? ⟨gb105, 5, none⟩ = some (.bool ((rd_T70 l0_1 x9_1).f0.f5)) := (blk_cell BK105.out 5).trans rfl; have hcz25_6 : w21.cell? ⟨gb105, 6, none⟩ = some (.slice Ao19 t106.length co19) := (blk_cell BK105.out 6).trans rfl; have hcz25_7 : w21.cell? ⟨gb105, 7, none⟩ = some (.int .i64 ((rd_T70 l0_1 x9_1).f1)) := (blk_cell BK105.out 7).trans rfl; have hfz25_0 := blk_frozen BK105.out 0; have hfz25_1 := blk_frozen BK105.out 1; have hfz25_2 := blk_frozen BK105.out 2; have hfz25_3 := blk_frozen BK105.out 3; have hfz25_4 := blk_frozen BK105.out 4; have hfz25_5 := blk_frozen BK105.out 5; have hfz25_6 := blk_frozen BK105.out 6; have hfz25_7 := blk_frozen BK105.out 7) | ((with_reducible refine gate_builtin (b := .append) (xs := #[.tmp 20, .tmp 23]) rfl ?_); at_builtin; refine Kd.S_append k52 (w0 := w) w.heap.size rfl (.tmp 20) (.tmp 23) 22 52 (.agg #[(.string ⟨#[]⟩), (.int .i64 0), (.int .i64 0), (.int .i64 0), (.bool false), (.bool false), (.slice none 0 0)]) 72 rfl Tryz.underlying22 info52 rfl (by decide) (by omega) u104000 x104000_1 (⟨(rd_T70 l0_1 x9_1).f0.f0, (rd_T70 l0_1 x9_1).f0.f1, (rd_T70 l0_1 x9_1).f0.f2, (rd_T70 l0_1 x9_1).f0.f3, (rd_T70 l0_1 x9_1).f0.f4, (rd_T70 l0_1 x9_1).f0.f5, t106⟩ : S52) [.string ((rd_T70 l0_1 x9_1).f0.f0), .int .i64 ((rd_T70 l0_1 x9_1).f0.f1), .int .i64 ((rd_T70 l0_1 x9_1).f0.f2), .int .i64 ((rd_T70 l0_1 x9_1).f0.f3), .bool ((rd_T70 l0_1 x9_1).f0.f4), .bool ((rd_T70 l0_1 x9_1).f0.f5), .slice Ao19 t106.length co19] (fun _ => True) (fun k_ => some k_ = (.slice Ao19 t106.length co19 : Value).ownBlock) rfl rfl ?aP (fun k_ hk_ => ((Kd.R_mono (ok' := fun k_ => ((fun _ => True)) k_ ∧ some k_ ≠ (u104000 : Value).ownBlock) (Kd.R_apart' (HO108.out) (Kd.S_typed HO_104000.out) (by decide)) (fun k_ hk => ⟨trivial, hk.2⟩))).1 k_ hk_.symm) ?aF ?aO ?aB ?aS ?aL ?_; (case aP => exact k52_mkM _ _ _ (⟨(rd_T70 l0_1 x9_1).f0.f0, (rd_T70 l0_1 x9_1).f0.f1, (rd_T70 l0_1 x9_1).f0.f2, (rd_T70 l0_1 x9_1).f0.f3, (rd_T70 l0_1 x9_1).f0.f4, (rd_T70 l0_1 x9_1).f0.f5, t106⟩ : S52) (Kd.R_mono (Kd.R_tight rfl (Kd.R_mono (ok' := fun k_ => ((fun _ => True)) k_ ∧ some k_ ≠ (u104000 : Value).ownBlock) (Kd.R_apart' (HO108.out) (Kd.S_typed HO_104000.out) (by decide)) (fun k_ hk => ⟨trivial, hk.2⟩))) (fun _ h_ => h_))); (case aB => exact (by repeat (first | (with_reducible first | exact HB.out | apply below_alloc | apply pw_below_drewN | apply below_drew1 | refine below_set ?_ GE101.out | refine below_set ?_ GE102.out | refine below_set ?_ GE103.out | refine below_set ?_ GE105.out) | exact HB.out))); (case aF => exact (fun _ _ => trivial)); (case aO => exact (by (with_reducible repeat (first | apply Kd.S_alloc | apply Kd.S_drewN | apply Kd.S_drew)); exact Kd.S_mono HO_104000.out (fun k_ hk => ⟨trivial, fun e_ => hk e_⟩))); (case aS => exact (below_size (by repeat (first | (with_reducible first | exact HB.out | apply below_alloc | apply pw_below_drewN | apply below_drew1 | refine below_set ?_ GE101.out | refine below_set ?_ GE102.out | refine below_set ?_ GE103.out | refine below_set ?_ GE105.out) | exact HB.out)))); (case aL => have := LMc12.out; omega); intro v110 w26 ho hb hg hat; rw [← Ny109.out] at ho; have n0_ := Aside0.mk (blk_grown (g := gb101) (o := .cells #[.int .i64 a0_0, .slice (some ad104) l0_1.length c0_1] 59 (0, 0)) (by (with_reducible repeat (first | refine zN ?_ _ | refine zD ?_ | refine zA ?_ _)); exact BK101.out) hg (Kd.S_ne HO_104000.out BK101.out (by decide))); have n1_ := Aside0.mk (blk_grown (g := gb102) (o := .cells #[.slice none 0 0] 24 (0, 0)) (by (with_reducible repeat (first | refine zN ?_ _ | refine zD ?_ | refine zA ?_ _)); exact BK102.out) hg (Kd.S_ne HO_104000.out BK102.out (by decide))); have n2_ := Aside0.mk (blk_grown (g := gb103) (o := .cells #[u104000] 24 (0, 0)) (by (with_reducible repeat (first | refine zN ?_ _ | refine zD ?_ | refine zA ?_ _)); exact BK103.out) hg (Kd.S_ne HO_104000.out BK103.out (by decide))); have n3_ := Aside0.mk (blk_grown (g := gb105) (o := .cells #[.string ((rd_T70 l0_1 x9_1).f0.f0), .int .i64 ((rd_T70 l0_1 x9_1).f0.f1), .int .i64 ((rd_T70 l0_1 x9_1).f0.f2), .int .i64 ((rd_T70 l0_1 x9_1).f0.f3), .bool ((rd_T70 l0_1 x9_1).f0.f4), .bool ((rd_T70 l0_1 x9_1).f0.f5), .slice Ao19 t106.length co19, .int .i64 ((rd_T70 l0_1 x9_1).f1)] 70 (0, 0)) (by (with_reducible repeat (first | refine zN ?_ _ | refine zD ?_ | refine zA ?_ _)); exact BK105.out) hg (Kd.S_ne HO_104000.out BK105.out (by decide))); have n4_ := Aside0.mk (hb); have n5_ := Aside0.mk (ho); clear BK101; clear BK102; clear BK103; clear BK105; clear HB; clear HO_104000; clear HO108; have BK101 := n0_; have BK102 := n1_; have BK103 := n2_; have BK105 := n3_; have HB := n4_; have HO111 := n5_; clear n0_ n1_ n2_ n3_ n4_ n5_; clear ho hb hg hat; obtain ⟨Ao27, co27, eo27⟩ := Kd.S_slice HO111.out; subst eo27; have hcz28_0 : w26.cell? ⟨gb103, 0, none⟩ = some (u104000) := (blk_cell BK103.out 0).trans rfl; have hfz28_0 := blk_frozen BK103.out 0))
       go_roundg k1
       case measure => have := HK1.out; omega
       case rel => exact ⟨(wrap64 (x9_1 + 1)), (y109), (.slice Ao27 y109.length co27), (by first | rfl | (simp; done) | (simp [*]; done)), H', ⟨by have := HK1.out; omega⟩, ⟨by (with_reducible repeat (first | apply Kd.S_alloc | apply Kd.S_drewN | apply Kd.S_drew)); exact Kd.S_mono (Kd.S_far (p := ⟨gb103, 0, none⟩) (Kd.S_types HO111.out BK103.out (by decide)) (fun _ hk => hk.2) (.slice Ao27 y109.length co27)) (fun _ hk => trivial)⟩, ⟨by (with_reducible repeat (first | refine zN ?_ _ | refine zD ?_ | refine zA ?_ _)); refine blk_far ?_ NB101_103.out _; (with_reducible repeat (first | refine zN ?_ _ | refine zD ?_ | refine zA ?_ _)); exact BK101.out⟩, ⟨by (with_reducible repeat (first | refine zN ?_ _ | refine zD ?_ | refine zA ?_ _)); refine blk_far ?_ NB102_103.out _; (with_reducible repeat (first | refine zN ?_ _ | refine zD ?_ | refine zA ?_ _)); exact BK102.out⟩, ⟨by (with_reducible repeat (first | refine zN ?_ _ | refine zD ?_ | refine zA ?_ _)); refine blk_put (cs := #[u104000]) ?_ 0 _ rfl; (with_reducible repeat (first | refine zN ?_ _ | refine zD ?_ | refine zA ?_ _)); exact BK103.out⟩, ⟨by repeat (first | (with_reducible first | exact HB.out | apply below_alloc | apply pw_below_drewN | apply below_drew1 | refine below_set ?_ GE101.out | refine below_set ?_ GE102.out | refine below_set ?_ GE103.out | refine below_set ?_ GE105.out) | exact HB.out)⟩⟩
      ·
       rw [if_neg c12] at H
       exact absurd H (by simp)
     ·
      rw [if_neg c10] at H
      exact absurd H (by simp)
    ·
     rw [if_neg c9] at H
     exact absurd H (by simp)
   ·
    rw [if_neg c8] at H
    have c8b0 : decide (x9_1 < (l0_1.length : Int)) = false := decide_eq_false c8
    clear c8
    obtain rfl := Option.some.inj H
    have hnb29 := NB103_101.out
    have hnc29 := NB101_103.out
    have hnb30 := NB103_102.out
    have hnc30 := NB102_103.out
    have hcz31_0 : wr.cell? ⟨gb103, 0, none⟩ = some (u104000) := (blk_cell BK103.out 0).trans rfl
    have hfz31_0 := blk_frozen BK103.out 0
    obtain ⟨Ao32, co32, eo32⟩ := Kd.S_slice HO_104000.out
    subst eo32
    have hnb33 := NB102_101.out
    have hnc33 := NB101_102.out
    have hcz34_0 : wr.cell? ⟨gb102, 0, none⟩ = some (.slice none 0 0) := (blk_cell BK102.out 0).trans rfl
    have hfz34_0 := blk_frozen BK102.out 0
    go_wp2
    refine bodyPost_ret (results_cell_row rfl _ _ gb102 24 #[.slice Ao32 x104000_1.length co32] (0, 0) _ rfl (by (with_reducible repeat (first | refine zN ?_ _ | refine zD ?_ | refine zA ?_ _)); refine blk_put (cs := #[.slice none 0 0]) ?_ 0 _ rfl; (with_reducible repeat (first | refine zN ?_ _ | refine zD ?_ | refine zA ?_ _)); exact BK102.out) Tryz.underlying24 rfl (by kernel_rfl)) rfl ?_
    exact ⟨_, by first | rfl | (simp [errW_none, errW_some] <;> rfl) | (simp [*, errW_none, errW_some] <;> rfl), by (with_reducible repeat (first | apply Kd.S_alloc | apply Kd.S_drewN | apply Kd.S_drew)); exact Kd.S_mono (Kd.S_far (p := ⟨gb102, 0, none⟩) (Kd.S_types HO_104000.out BK102.out (by decide)) (fun _ hk => hk.2) (.slice Ao32 x104000_1.length co32)) (fun _ hk => trivial), by repeat (first | (with_reducible first | exact HB.out | apply below_alloc | apply pw_below_drewN | apply below_drew1 | refine below_set ?_ GE101.out | refine below_set ?_ GE102.out | refine below_set ?_ GE103.out) | exact HB.out)⟩
end Go.Proofs.YtcoaajkhfgakgaaGreatDoor.Pr
end

section
namespace Go.Proofs.YtcoaajkhfgakgaaGreatDoor.Pr
open Go.RowKit Go.Proofs.YtcoaajkhfgakgaaGreatDoorW.PrintWords Go.Proofs.YtcoaajkhfgakgaaGreatDoorW.PrintLast Go.Proofs.YtcoaajkhfgakgaaGreatDoorW.PrintMore
attribute [local go_sem] max2_int min2_int max_two min_two max_three min_three max_four min_four   -- for this text's walks alone
set_option linter.unusedVariables false
set_option linter.unusedSimpArgs false
def plan_Table_Find.l0 : Nat → ByteArray → List (S70) → Int → Int → Option (ByteArray × Int × Int × Int × Bool × Bool × List ByteArray × Int × Bool)
  | 0, _, _, _, _ => none
  | k + 1, x1, x9, x10, x11 => if x11 < x10 then (if 0 ≤ x11 then (if x11 < (x9.length : Int) then (if ((rd_T70 x9 x11).f0.f0).toList = x1.toList then ((slices_Clone_string_string.f ((rd_T70 x9 x11).f0.f6)).bind fun t116 => (some ((rd_T70 x9 x11).f0.f0, (rd_T70 x9 x11).f0.f1, (rd_T70 x9 x11).f0.f2, (rd_T70 x9 x11).f0.f3, (rd_T70 x9 x11).f0.f4, (rd_T70 x9 x11).f0.f5, t116, (rd_T70 x9 x11).f1, true))) else (plan_Table_Find.l0 k x1 x9 x10 (wrap64 (x11 + 1)))) else (none)) else (none)) else (some ((⟨#[]⟩ : ByteArray), 0, 0, 0, false, false, ([] : List ByteArray), 0, false))
def plan_Table_Find.f (k : Nat) (a0_0 : Int) (l0_1 : List (S70)) (a1 : ByteArray) : Option (ByteArray × Int × Int × Int × Bool × Bool × List ByteArray × Int × Bool) := plan_Table_Find.l0 k a1 l0_1 (l0_1.length : Int) 0
theorem plan_Table_Find.mono_l : ∀ k, (∀ y0 y1 y2 y3, LeO (plan_Table_Find.l0 k y0 y1 y2 y3) (plan_Table_Find.l0 (k + 1) y0 y1 y2 y3))
  | 0 => fun _ _ _ _ r h => by simp [plan_Table_Find.l0] at h
  | k + 1 => by
    have ih0 := plan_Table_Find.mono_l k
    · intro y0 y1 y2 y3
      unfold plan_Table_Find.l0
      repeat' first
      | (with_reducible exact ih0 _ _ _ _)
      | (with_reducible exact LeO.refl _)
      | (with_reducible exact LeO.none _)
      | (with_reducible refine LeO.ite ?_ ?_)
      | (with_reducible refine LeO.bind ?_ (fun _ => ?_))
      | exact ih0 _ _ _ _
      | exact LeO.none _
      | refine LeO.ite ?_ ?_
      | refine LeO.bind ?_ (fun _ => ?_)
theorem plan_Table_Find.mono : ∀ a0 a1 a2 k, LeO (plan_Table_Find.f k a0 a1 a2) (plan_Table_Find.f (k + 1) a0 a1 a2) := by
  intro a0 a1 a2 k
  have ih0 := plan_Table_Find.mono_l k
  unfold plan_Table_Find.f
  repeat' first
      | (with_reducible exact ih0 _ _ _ _)
      | (with_reducible exact LeO.refl _)
      | (with_reducible exact LeO.none _)
      | (with_reducible refine LeO.ite ?_ ?_)
      | (with_reducible refine LeO.bind ?_ (fun _ => ?_))
      | exact ih0 _ _ _ _
      | exact LeO.none _
      | refine LeO.ite ?_ ?_
      | refine LeO.bind ?_ (fun _ => ?_)
set_option maxHeartbeats 8000000 in
set_option maxRecDepth 100000 in
theorem plan_Table_Find.calls (k : Nat) (a0_0 : Int) (A0_1 : Option Addr) (c0_1 : Nat) (l0_1 : List (S70)) (a1 : ByteArray) (r1 : ByteArray) (r2 : Int) (r3 : Int) (r4 : Int) (r5 : Bool) (r6 : Bool) (r7 : List ByteArray) (r8 : Int) (r9 : Bool) (w : World) (hr0_1 : Kd.C k70 w A0_1 l0_1.length l0_1) (hc0_1 : l0_1.length ≤ c0_1) (h : plan_Table_Find.f k a0_0 l0_1 a1 = some (r1, r2, r3, r4, r5, r6, r7, r8, r9)) :
  Calls Tryz.prog 33 #[.agg #[.int .i64 a0_0, .slice A0_1 l0_1.length c0_1], .string a1] w fun e w' => ∃ v6_ : Value, e = .returned (.tuple #[.agg #[.string r1, .int .i64 r2, .int .i64 r3, .int .i64 r4, .bool r5, .bool r6, v6_, .int .i64 r8], .bool r9]) ∧ Kd.R Kd.string 9 w' w.heap.size (fun _ => True) v6_ r7 ∧ Below w.heap.size w w' := by
 have hu59 := Tryz.underlying59
 have hu70 := Tryz.underlying70
 have HR0_1 := Aside0.mk hr0_1
 have HC0_1 := Aside0.mk hc0_1
 clear hr0_1 hc0_1
 have HB := Aside0.mk (Below.refl w.heap.size w)
 have H : (plan_Table_Find.l0 k a1 l0_1 (l0_1.length : Int) 0) = some (r1, r2, r3, r4, r5, r6, r7, r8, r9) := h
 clear h
 have H' := Aside0.mk H
 clear H
 go_enter Tryz.func33, Tryz.ntmps33
 go_wp2_with (first | ((with_reducible refine gate_dst (N := 2) rfl ?_); refine box_event ?hg (N := 2) ?hd (cs := #[.int .i64 a0_0, .slice A0_1 l0_1.length c0_1]) (t := 59) ?hr ?_; (case hd => rfl); (case hg => rfl); (case hr => first | (go_simp; done) | (go_simp; rfl)); intro gb112 hg w3 hbox hb; have n0_ := Aside0.mk (below_step (by repeat (first | (with_reducible first | exact HB.out | apply below_alloc | apply pw_below_drewN | apply below_drew1) | exact HB.out)) hb); have n1_ := Aside0.mk (hbox); have n2_ := Aside0.mk ((by rw [hg]; exact (below_size (by repeat (first | (with_reducible first | exact HB.out | apply below_alloc | apply pw_below_drewN | apply below_drew1) | exact HB.out))) : w.heap.size ≤ gb112)); have n3_ := Aside0.mk ((by rw [hg]; exact (below_size (by repeat (first | (with_reducible first | exact HB.out | apply below_alloc | apply pw_below_drewN | apply below_drew1) | exact HB.out))) : w.heap.size ≤ gb112)); clear HB; have HB := n0_; have BK112 := n1_; have GW112 := n2_; have GE112 := n3_; clear n0_ n1_ n2_ n3_; clear hb hbox hg) | ((with_reducible refine gate_dst (N := 4) rfl ?_); refine box_event ?hg (N := 4) ?hd (cs := #[.string (⟨#[]⟩ : ByteArray), .int .i64 0, .int .i64 0, .int .i64 0, .bool false, .bool false, .slice none 0 0, .int .i64 0]) (t := 70) ?hr ?_; (case hd => rfl); (case hg => rfl); (case hr => first | (go_simp; done) | (go_simp; rfl)); intro gb113 hg w4 hbox hb; have n0_ := Aside0.mk (blk_below (g := gb112) (o := .cells #[.int .i64 a0_0, .slice A0_1 l0_1.length c0_1] 59 (0, 0)) (by (with_reducible repeat (first | refine zN ?_ _ | refine zD ?_ | refine zA ?_ _)); exact BK112.out) hb); have n1_ := Aside0.mk (below_step (by repeat (first | (with_reducible first | exact HB.out | apply below_alloc | apply pw_below_drewN | apply below_drew1 | refine below_set ?_ GE112.out) | exact HB.out)) hb); have n2_ := Aside0.mk (hbox); have n3_ := Aside0.mk ((by rw [hg]; exact (below_size (by repeat (first | (with_reducible first | exact HB.out | apply below_alloc | apply pw_below_drewN | apply below_drew1 | refine below_set ?_ GE112.out) | exact HB.out))) : w.heap.size ≤ gb113)); have n4_ := Aside0.mk ((by rw [hg]; exact (below_size (by repeat (first | (with_reducible first | exact HB.out | apply below_alloc | apply pw_below_drewN | apply below_drew1 | refine below_set ?_ GE112.out) | exact HB.out))) : w.heap.size ≤ gb113)); have n5_ := Aside0.mk ((by rw [hg]; exact Nat.ne_of_lt (blk_lt (g := gb112) (o := .cells #[.int .i64 a0_0, .slice A0_1 l0_1.length c0_1] 59 (0, 0)) (by (with_reducible repeat (first | refine zN ?_ _ | refine zD ?_ | refine zA ?_ _)); exact BK112.out)) : gb112 ≠ gb113)); have n6_ := Aside0.mk ((by rw [hg]; exact Nat.ne_of_gt (blk_lt (g := gb112) (o := .cells #[.int .i64 a0_0, .slice A0_1 l0_1.length c0_1] 59 (0, 0)) (by (with_reducible repeat (first | refine zN ?_ _ | refine zD ?_ | refine zA ?_ _)); exact BK112.out)) : gb113 ≠ gb112)); clear BK112; clear HB; have BK112 := n0_; have HB := n1_; have BK113 := n2_; have GW113 := n3_; have GE113 := n4_; have NB112_113 := n5_; have NB113_112 := n6_; clear n0_ n1_ n2_ n3_ n4_ n5_ n6_; clear hb hbox hg; have hnb5 := NB112_113.out; have hnc5 := NB113_112.out; have hcz6_0 : w4.cell? ⟨gb112, 0, none⟩ = some (.int .i64 a0_0) := (blk_cell BK112.out 0).trans rfl; have hcz6_1 : w4.cell? ⟨gb112, 1, none⟩ = some (.slice A0_1 l0_1.length c0_1) := (blk_cell BK112.out 1).trans rfl; have hfz6_0 := blk_frozen BK112.out 0; have hfz6_1 := blk_frozen BK112.out 1))
 go_loopg [11] k (fun kq v11 w' => ∃ (x11_1 : Int) (x114000_1 : ByteArray) (x114001_1 : Int) (x114002_1 : Int) (x114003_1 : Int) (x114004_1 : Bool) (x114005_1 : Bool) (x114007_1 : Int), v11 = .int .i64 x11_1 ∧ Aside0 (plan_Table_Find.l0 kq a1 l0_1 (l0_1.length : Int) x11_1 = some (r1, r2, r3, r4, r5, r6, r7, r8, r9)) ∧ Aside0 (kq ≤ k) ∧ Aside0 (w'.heap[gb112]? = some (.cells #[.int .i64 a0_0, (.slice A0_1 l0_1.length c0_1)] 59 (0, 0))) ∧ Aside0 (w'.heap[gb113]? = some (.cells #[.string x114000_1, .int .i64 x114001_1, .int .i64 x114002_1, .int .i64 x114003_1, .bool x114004_1, .bool x114005_1, (.slice none 0 0), .int .i64 x114007_1] 70 (0, 0))) ∧ Aside0 (Below w.heap.size w w'))
 case atStart => exact ⟨(0), ((⟨#[]⟩ : ByteArray)), (0), (0), (0), (false), (false), (0), (by first | rfl | (simp; done) | (simp [*]; done)), H', ⟨Nat.le_refl _⟩, ⟨by (with_reducible repeat (first | refine zN ?_ _ | refine zD ?_ | refine zA ?_ _)); exact BK112.out⟩, ⟨by (with_reducible repeat (first | refine zN ?_ _ | refine zD ?_ | refine zA ?_ _)); exact BK113.out⟩, ⟨by repeat (first | (with_reducible first | exact HB.out | apply below_alloc | apply pw_below_drewN | apply below_drew1 | refine below_set ?_ GE112.out | refine below_set ?_ GE113.out) | exact HB.out)⟩⟩
 case round =>
  clear H'
  try clear p2
  try clear c3
  try clear c5
  try clear hcz6_0
  try clear hcz6_1
  try clear hfz6_0
  try clear hfz6_1
  obtain ⟨x11_1, x114000_1, x114001_1, x114002_1, x114003_1, x114004_1, x114005_1, x114007_1, rfl, HA, HK1, BK112, BK113, HB⟩ := hrel
  cases gk with
  | zero => exact absurd HA.out (by simp [plan_Table_Find.l0])
  | succ k1 =>
   have H := HA.out
   clear HA
   simp only [plan_Table_Find.l0] at H
   by_cases c7 : x11_1 < (l0_1.length : Int)
   ·
    rw [if_pos c7] at H
    have c7b0 : decide (x11_1 < (l0_1.length : Int)) = true := decide_eq_true c7
    clear c7
    by_cases c8 : 0 ≤ x11_1
    ·
     rw [if_pos c8] at H
     have c8b0 : decide (0 ≤ x11_1) = true := decide_eq_true c8
     clear c8
     by_cases c9 : x11_1 < (l0_1.length : Int)
     ·
      rw [if_pos c9] at H
      have c9b0 : decide (x11_1 < (l0_1.length : Int)) = true := decide_eq_true c9
      clear c9
      by_cases c10 : ((rd_T70 l0_1 x11_1).f0.f0).toList = a1.toList
      ·
       rw [if_pos c10] at H
       have c10b0 : (((rd_T70 l0_1 x11_1).f0.f0).toList == a1.toList) = true := beq_iff_eq.mpr c10
       have c10b1 : (((rd_T70 l0_1 x11_1).f0.f0).toList != a1.toList) = false := bne_eq_false_iff_eq.mpr c10
       clear c10
       replace H := Option.bind_eq_some_iff.mp H
       obtain ⟨t116, A110, H⟩ := H
       replace H : (some ((rd_T70 l0_1 x11_1).f0.f0, (rd_T70 l0_1 x11_1).f0.f1, (rd_T70 l0_1 x11_1).f0.f2, (rd_T70 l0_1 x11_1).f0.f3, (rd_T70 l0_1 x11_1).f0.f4, (rd_T70 l0_1 x11_1).f0.f5, t116, (rd_T70 l0_1 x11_1).f1, true)) = some (r1, r2, r3, r4, r5, r6, r7, r8, r9) := H
       have A11 := Aside0.mk A110
       clear A110
       simp only [Option.some.injEq, Prod.mk.injEq] at H
       obtain ⟨rfl, rfl, rfl, rfl, rfl, rfl, rfl, rfl, rfl⟩ := H
       have p114 : 0 ≤ (x11_1 : Int) := of_decide_eq_true (by first | (with_reducible assumption) | assumption)
       have q114 : x11_1 < (l0_1.length : Int) := of_decide_eq_true (by first | (with_reducible assumption) | assumption)
       obtain ⟨ad114, A114_6, c114_6, e114, hx114_0, hx114_1, hx114_2, hx114_3, hx114_4, hx114_5, hx114_6, hx114_7, hl114_6, hi114_6⟩ := at_T70 HR0_1.out x11_1 p114 q114
       cases e114
       replace hx114_0 := (HB.out.cell (World.block_lt_of_cell? w _ hx114_0)).trans hx114_0
       replace hx114_1 := (HB.out.cell (World.block_lt_of_cell? w _ hx114_1)).trans hx114_1
       replace hx114_2 := (HB.out.cell (World.block_lt_of_cell? w _ hx114_2)).trans hx114_2
       replace hx114_3 := (HB.out.cell (World.block_lt_of_cell? w _ hx114_3)).trans hx114_3
       replace hx114_4 := (HB.out.cell (World.block_lt_of_cell? w _ hx114_4)).trans hx114_4
       replace hx114_5 := (HB.out.cell (World.block_lt_of_cell? w _ hx114_5)).trans hx114_5
       replace hx114_6 := (HB.out.cell (World.block_lt_of_cell? w _ hx114_6)).trans hx114_6
       replace hx114_7 := (HB.out.cell (World.block_lt_of_cell? w _ hx114_7)).trans hx114_7
       have HR114_6 := Aside0.mk hi114_6
       have HC114_6 := Aside0.mk hl114_6
       clear hi114_6 hl114_6
       replace p114 := eq_true p114
       replace q114 := eq_true q114
       go_wp2_with (first | ((with_reducible refine gate_dst (N := 7) rfl ?_); refine box_event ?hg (N := 7) ?hd (cs := #[.string (⟨#[]⟩ : ByteArray), .int .i64 0, .int .i64 0, .int .i64 0, .bool false, .bool false, .slice none 0 0, .int .i64 0]) (t := 70) ?hr ?_; (case hd => rfl); (case hg => rfl); (case hr => first | (go_simp; done) | (go_simp; rfl)); intro gb115 hg w12 hbox hb; have n0_ := Aside0.mk (blk_below (g := gb112) (o := .cells #[.int .i64 a0_0, .slice (some ad114) l0_1.length c0_1] 59 (0, 0)) (by (with_reducible repeat (first | refine zN ?_ _ | refine zD ?_ | refine zA ?_ _)); exact BK112.out) hb); have n1_ := Aside0.mk (blk_below (g := gb113) (o := .cells #[.string x114000_1, .int .i64 x114001_1, .int .i64 x114002_1, .int .i64 x114003_1, .bool x114004_1, .bool x114005_1, .slice none 0 0, .int .i64 x114007_1] 70 (0, 0)) (by (with_reducible repeat (first | refine zN ?_ _ | refine zD ?_ | refine zA ?_ _)); exact BK113.out) hb); have n2_ := Aside0.mk (below_step (by repeat (first | (with_reducible first | exact HB.out | apply below_alloc | apply pw_below_drewN | apply below_drew1 | refine below_set ?_ GE112.out | refine below_set ?_ GE113.out) | exact HB.out)) hb); have n3_ := Aside0.mk (hbox); have n4_ := Aside0.mk ((by rw [hg]; exact (below_size (by repeat (first | (with_reducible first | exact HB.out | apply below_alloc | apply pw_below_drewN | apply below_drew1 | refine below_set ?_ GE112.out | refine below_set ?_ GE113.out) | exact HB.out))) : w.heap.size ≤ gb115)); have n5_ := Aside0.mk ((by rw [hg]; exact (below_size (by repeat (first | (with_reducible first | exact HB.out | apply below_alloc | apply pw_below_drewN | apply below_drew1 | refine below_set ?_ GE112.out | refine below_set ?_ GE113.out) | exact HB.out))) : w.heap.size ≤ gb115)); have n6_ := Aside0.mk ((by rw [hg]; exact Nat.ne_of_lt (blk_lt (g := gb112) (o := .cells #[.int .i64 a0_0, .slice (some ad114) l0_1.length c0_1] 59 (0, 0)) (by (with_reducible repeat (first | refine zN ?_ _ | refine zD ?_ | refine zA ?_ _)); exact BK112.out)) : gb112 ≠ gb115)); have n7_ := Aside0.mk ((by rw [hg]; exact Nat.ne_of_gt (blk_lt (g := gb112) (o := .cells #[.int .i64 a0_0, .slice (some ad114) l0_1.length c0_1] 59 (0, 0)) (by (with_reducible repeat (first | refine zN ?_ _ | refine zD ?_ | refine zA ?_ _)); exact BK112.out)) : gb115 ≠ gb112)); have n8_ := Aside0.mk ((by rw [hg]; exact Nat.ne_of_lt (blk_lt (g := gb113) (o := .cells #[.string x114000_1, .int .i64 x114001_1, .int .i64 x114002_1, .int .i64 x114003_1, .bool x114004_1, .bool x114005_1, .slice none 0 0, .int .i64 x114007_1] 70 (0, 0)) (by (with_reducible repeat (first | refine zN ?_ _ | refine zD ?_ | refine zA ?_ _)); exact BK113.out)) : gb113 ≠ gb115)); have n9_ := Aside0.mk ((by rw [hg]; exact Nat.ne_of_gt (blk_lt (g := gb113) (o := .cells #[.string x114000_1, .int .i64 x114001_1, .int .i64 x114002_1, .int .i64 x114003_1, .bool x114004_1, .bool x114005_1, .slice none 0 0, .int .i64 x114007_1] 70 (0, 0)) (by (with_reducible repeat (first | refine zN ?_ _ | refine zD ?_ | refine zA ?_ _)); exact BK113.out)) : gb115 ≠ gb113)); clear BK112; clear BK113; clear HB; have BK112 := n0_; have BK113 := n1_; have HB := n2_; have BK115 := n3_; have GW115 := n4_; have GE115 := n5_; have NB112_115 := n6_; have NB115_112 := n7_; have NB113_115 := n8_; have NB115_113 := n9_; clear n0_ n1_ n2_ n3_ n4_ n5_ n6_ n7_ n8_ n9_; clear hb hbox hg; have hnb13 := NB115_112.out; have hnc13 := NB112_115.out; have hnb14 := NB115_113.out; have hnc14 := NB113_115.out; have hcz15_0 : w12.cell? ⟨gb115, 0, none⟩ = some (.string (⟨#[]⟩ : ByteArray)) := (blk_cell BK115.out 0).trans rfl; have hcz15_1 : w12.cell? ⟨gb115, 1, none⟩ = some (.int .i64 0) := (blk_cell BK115.out 1).trans rfl; have hcz15_2 : w12.cell? ⟨gb115, 2, none⟩ = some (.int .i64 0) := (blk_cell BK115.out 2).trans rfl; have hcz15_3 : w12.cell? ⟨gb115, 3, none⟩ = some (.int .i64 0) := (blk_cell BK115.out 3).trans rfl; have hcz15_4 : w12.cell? ⟨gb115, 4, none⟩ = some (.bool false) := (blk_cell BK115.out 4).trans rfl; have hcz15_5 : w12.cell? ⟨gb115, 5, none⟩ = some (.bool false) := (blk_cell BK115.out 5).trans rfl; have hcz15_6 : w12.cell? ⟨gb115, 6, none⟩ = some (.slice none 0 0) := (blk_cell BK115.out 6).trans rfl; have hcz15_7 : w12.cell? ⟨gb115, 7, none⟩ = some (.int .i64 0) := (blk_cell BK115.out 7).trans rfl; have hfz15_0 := blk_frozen BK115.out 0; have hfz15_1 := blk_frozen BK115.out 1; have hfz15_2 := blk_frozen BK115.out 2; have hfz15_3 := blk_frozen BK115.out 3; have hfz15_4 := blk_frozen BK115.out 4; have hfz15_5 := blk_frozen BK115.out 5; have hfz15_6 := blk_frozen BK115.out 6; have hfz15_7 := blk_frozen BK115.out 7) | ((with_reducible refine gate_callee (f := 62) rfl ?_); refine goesL_ (some 23) rfl rfl Tryz.func62 (by kernel_rfl) rfl #[.slice A114_6 ((rd_T70 l0_1 x11_1).f0.f6).length c114_6] rfl (by (try simp only [List.map_toArray, List.map_cons, List.map_nil]); first | done | rfl | (simp only [List.length_drop, List.length_take]; rfl)) ?_; (with_reducible refine (slices_Clone_string_string.calls _ _ ((rd_T70 l0_1 x11_1).f0.f6) t116 _ ?side1 ?side2 A11.out).mono ?_); (case side1 => exact Kd.C_below HR114_6.out (by repeat (first | (with_reducible first | exact HB.out | apply below_alloc | apply pw_below_drewN | apply below_drew1 | refine below_set ?_ GE112.out | refine below_set ?_ GE113.out | refine below_set ?_ GE115.out) | exact HB.out))); (case side2 => exact HC114_6.out); rintro e w16 ⟨v117, rfl, ho0, hb⟩; refine ⟨_, rfl, ?_⟩; have n0_ := Aside0.mk (Kd.R_lower ho0 (below_size (by repeat (first | (with_reducible first | exact HB.out | apply below_alloc | apply pw_below_drewN | apply below_drew1 | refine below_set ?_ GE112.out | refine below_set ?_ GE113.out | refine below_set ?_ GE115.out) | exact HB.out)))); have n1_ := Aside0.mk (blk_below (g := gb112) (o := .cells #[.int .i64 a0_0, .slice (some ad114) l0_1.length c0_1] 59 (0, 0)) (by (with_reducible repeat (first | refine zN ?_ _ | refine zD ?_ | refine zA ?_ _)); refine blk_far ?_ NB112_115.out _; (with_reducible repeat (first | refine zN ?_ _ | refine zD ?_ | refine zA ?_ _)); refine blk_far ?_ NB112_115.out _; (with_reducible repeat (first | refine zN ?_ _ | refine zD ?_ | refine zA ?_ _)); refine blk_far ?_ NB112_115.out _; (with_reducible repeat (first | refine zN ?_ _ | refine zD ?_ | refine zA ?_ _)); refine blk_far ?_ NB112_115.out _; (with_reducible repeat (first | refine zN ?_ _ | refine zD ?_ | refine zA ?_ _)); refine blk_far ?_ NB112_115.out _; (with_reducible repeat (first | refine zN ?_ _ | refine zD ?_ | refine zA ?_ _)); refine blk_far ?_ NB112_115.out _; (with_reducible repeat (first | refine zN ?_ _ | refine zD ?_ | refine zA ?_ _)); refine blk_far ?_ NB112_115.out _; (with_reducible repeat (first | refine zN ?_ _ | refine zD ?_ | refine zA ?_ _)); refine blk_far ?_ NB112_115.out _; (with_reducible repeat (first | refine zN ?_ _ | refine zD ?_ | refine zA ?_ _)); exact BK112.out) hb); have n2_ := Aside0.mk (blk_below (g := gb113) (o := .cells #[.string x114000_1, .int .i64 x114001_1, .int .i64 x114002_1, .int .i64 x114003_1, .bool x114004_1, .bool x114005_1, .slice none 0 0, .int .i64 x114007_1] 70 (0, 0)) (by (with_reducible repeat (first | refine zN ?_ _ | refine zD ?_ | refine zA ?_ _)); refine blk_far ?_ NB113_115.out _; (with_reducible repeat (first | refine zN ?_ _ | refine zD ?_ | refine zA ?_ _)); refine blk_far ?_ NB113_115.out _; (with_reducible repeat (first | refine zN ?_ _ | refine zD ?_ | refine zA ?_ _)); refine blk_far ?_ NB113_115.out _; (with_reducible repeat (first | refine zN ?_ _ | refine zD ?_ | refine zA ?_ _)); refine blk_far ?_ NB113_115.out _; (with_reducible repeat (first | refine zN ?_ _ | refine zD ?_ | refine zA ?_ _)); refine blk_far ?_ NB113_115.out _; (with_reducible repeat (first | refine zN ?_ _ | refine zD ?_ | refine zA ?_ _)); refine blk_far ?_ NB113_115.out _; (with_reducible repeat (first | refine zN ?_ _ | refine zD ?_ | refine zA ?_ _)); refine blk_far ?_ NB113_115.out _; (with_reducible repeat (first | refine zN ?_ _ | refine zD ?_ | refine zA ?_ _)); refine blk_far ?_ NB113_115.out _; (with_reducible repeat (first | refine zN ?_ _ | refine zD ?_ | refine zA ?_ _)); exact BK113.out) hb); have n3_ := Aside0.mk (blk_below (g := gb115) (o := .cells #[.string ((rd_T70 l0_1 x11_1).f0.f0), .int .i64 ((rd_T70 l0_1 x11_1).f0.f1), .int .i64 ((rd_T70 l0_1 x11_1).f0.f2), .int .i64 ((rd_T70 l0_1 x11_1).f0.f3), .bool ((rd_T70 l0_1 x11_1).f0.f4), .bool ((rd_T70 l0_1 x11_1).f0.f5), .slice A114_6 ((rd_T70 l0_1 x11_1).f0.f6).length c114_6, .int .i64 ((rd_T70 l0_1 x11_1).f1)] 70 (0, 0)) (by (with_reducible repeat (first | refine zN ?_ _ | refine zD ?_ | refine zA ?_ _)); refine blk_put (cs := #[.string ((rd_T70 l0_1 x11_1).f0.f0), .int .i64 ((rd_T70 l0_1 x11_1).f0.f1), .int .i64 ((rd_T70 l0_1 x11_1).f0.f2), .int .i64 ((rd_T70 l0_1 x11_1).f0.f3), .bool ((rd_T70 l0_1 x11_1).f0.f4), .bool ((rd_T70 l0_1 x11_1).f0.f5), .slice A114_6 ((rd_T70 l0_1 x11_1).f0.f6).length c114_6, .int .i64 0]) ?_ 7 _ rfl; (with_reducible repeat (first | refine zN ?_ _ | refine zD ?_ | refine zA ?_ _)); refine blk_put (cs := #[.string ((rd_T70 l0_1 x11_1).f0.f0), .int .i64 ((rd_T70 l0_1 x11_1).f0.f1), .int .i64 ((rd_T70 l0_1 x11_1).f0.f2), .int .i64 ((rd_T70 l0_1 x11_1).f0.f3), .bool ((rd_T70 l0_1 x11_1).f0.f4), .bool ((rd_T70 l0_1 x11_1).f0.f5), .slice none 0 0, .int .i64 0]) ?_ 6 _ rfl; (with_reducible repeat (first | refine zN ?_ _ | refine zD ?_ | refine zA ?_ _)); refine blk_put (cs := #[.string ((rd_T70 l0_1 x11_1).f0.f0), .int .i64 ((rd_T70 l0_1 x11_1).f0.f1), .int .i64 ((rd_T70 l0_1 x11_1).f0.f2), .int .i64 ((rd_T70 l0_1 x11_1).f0.f3), .bool ((rd_T70 l0_1 x11_1).f0.f4), .bool false, .slice none 0 0, .int .i64 0]) ?_ 5 _ rfl; (with_reducible repeat (first | refine zN ?_ _ | refine zD ?_ | refine zA ?_ _)); refine blk_put (cs := #[.string ((rd_T70 l0_1 x11_1).f0.f0), .int .i64 ((rd_T70 l0_1 x11_1).f0.f1), .int .i64 ((rd_T70 l0_1 x11_1).f0.f2), .int .i64 ((rd_T70 l0_1 x11_1).f0.f3), .bool false, .bool false, .slice none 0 0, .int .i64 0]) ?_ 4 _ rfl; (with_reducible repeat (first | refine zN ?_ _ | refine zD ?_ | refine zA ?_ _)); refine blk_put (cs := #[.string ((rd_T70 l0_1 x11_1).f0.f0), .int .i64 ((rd_T70 l0_1 x11_1).f0.f1), .int .i64 ((rd_T70 l0_1 x11_1).f0.f2), .int .i64 0, .bool false, .bool false, .slice none 0 0, .int .i64 0]) ?_ 3 _ rfl; (with_reducible repeat (first | refine zN ?_ _ | refine zD ?_ | refine zA ?_ _)); refine blk_put (cs := #[.string ((rd_T70 l0_1 x11_1).f0.f0), .int .i64 ((rd_T70 l0_1 x11_1).f0.f1), .int .i64 0, .int .i64 0, .bool false, .bool false, .slice none 0 0, .int .i64 0]) ?_ 2 _ rfl; (with_reducible repeat (first | refine zN ?_ _ | refine zD ?_ | refine zA ?_ _)); refine blk_put (cs := #[.string ((rd_T70 l0_1 x11_1).f0.f0), .int .i64 0, .int .i64 0, .int .i64 0, .bool false, .bool false, .slice none 0 0, .int .i64 0]) ?_ 1 _ rfl; (with_reducible repeat (first | refine zN ?_ _ | refine zD ?_ | refine zA ?_ _)); refine blk_put (cs := #[.string (⟨#[]⟩ : ByteArray), .int .i64 0, .int .i64 0, .int .i64 0, .bool false, .bool false, .slice none 0 0, .int .i64 0]) ?_ 0 _ rfl; (with_reducible repeat (first | refine zN ?_ _ | refine zD ?_ | refine zA ?_ _)); exact BK115.out) hb); have n4_ := Aside0.mk (below_step (by repeat (first | (with_reducible first | exact HB.out | apply below_alloc | apply pw_below_drewN | apply below_drew1 | refine below_set ?_ GE112.out | refine below_set ?_ GE113.out | refine below_set ?_ GE115.out) | exact HB.out)) hb); clear BK112; clear BK113; clear BK115; clear HB; have HO118 := n0_; have BK112 := n1_; have BK113 := n2_; have BK115 := n3_; have HB := n4_; clear n0_ n1_ n2_ n3_ n4_; (try clear hb); (try clear hb2); (try clear hk); (try clear hi); (try clear ho0); obtain ⟨Ao17, co17, eo17⟩ := Kd.R_slice HO118.out; subst eo17; have hcz18_0 : w16.cell? ⟨gb115, 0, none⟩ = some (.string ((rd_T70 l0_1 x11_1).f0.f0)) := (blk_cell BK115.out 0).trans rfl; have hcz18_1 : w16.cell? ⟨gb115, 1, none⟩ = some (.int .i64 ((rd_T70 l0_1 x11_1).f0.f1)) := (blk_cell BK115.out 1).trans rfl; have hcz18_2 : w16.cell? ⟨gb115, 2, none⟩ = some (.int .i64 ((rd_T70 l0_1 x11_1).f0.f2)) := (blk_cell BK115.out 2).trans rfl; have hcz18_3 : w16.cell? ⟨gb115, 3, none⟩ = some (.int .i64 ((rd_T70 l0_1 x11_1).f0.f3)) := (blk_cell BK115.out 3).trans rfl; have hcz18_4 : w16.cell? ⟨gb115, 4, none⟩ = some (.bool ((rd_T70 l0_1 x11_1).f0.f4)) := (blk_cell BK115.out 4).trans rfl; have hcz18_5 : w16.cell? ⟨gb115, 5, none⟩ = some (.bool ((rd_T70 l0_1 x11_1).f0.f5)) := (blk_cell BK115.out 5).trans rfl; have hcz18_6 : w16.cell? ⟨gb115, 6, none⟩ = some (.slice A114_6 ((rd_T70 l0_1 x11_1).f0.f6).length c114_6) := (blk_cell BK115.out 6).trans rfl; have hcz18_7 : w16.cell? ⟨gb115, 7, none⟩ = some (.int .i64 ((rd_T70 l0_1 x11_1).f1)) := (blk_cell BK115.out 7).trans rfl; have hfz18_0 := blk_frozen BK115.out 0; have hfz18_1 := blk_frozen BK115.out 1; have hfz18_2 := blk_frozen BK115.out 2; have hfz18_3 := blk_frozen BK115.out 3; have hfz18_4 := blk_frozen BK115.out 4; have hfz18_5 := blk_frozen BK115.out 5; have hfz18_6 := blk_frozen BK115.out 6; have hfz18_7 := blk_frozen BK115.out 7; have hnb19 := NB113_112.out; have hnc19 := NB112_113.out; have hcz20_0 : w16.cell? ⟨gb113, 0, none⟩ = some (.string x114000_1) := (blk_cell BK113.out 0).trans rfl; have hcz20_1 : w16.cell? ⟨gb113, 1, none⟩ = some (.int .i64 x114001_1) := (blk_cell BK113.out 1).trans rfl; have hcz20_2 : w16.cell? ⟨gb113, 2, none⟩ = some (.int .i64 x114002_1) := (blk_cell BK113.out 2).trans rfl; have hcz20_3 : w16.cell? ⟨gb113, 3, none⟩ = some (.int .i64 x114003_1) := (blk_cell BK113.out 3).trans rfl; have hcz20_4 : w16.cell? ⟨gb113, 4, none⟩ = some (.bool x114004_1) := (blk_cell BK113.out 4).trans rfl; have hcz20_5 : w16.cell? ⟨gb113, 5, none⟩ = some (.bool x114005_1) := (blk_cell BK113.out 5).trans rfl; have hcz20_6 : w16.cell? ⟨gb113, 6, none⟩ = some (.slice none 0 0) := (blk_cell BK113.out 6).trans rfl; have hcz20_7 : w16.cell? ⟨gb113, 7, none⟩ = some (.int .i64 x114007_1) := (blk_cell BK113.out 7).trans rfl; have hfz20_0 := blk_frozen BK113.out 0; have hfz20_1 := blk_frozen BK113.out 1; have hfz20_2 := blk_frozen BK113.out 2; have hfz20_3 := blk_frozen BK113.out 3; have hfz20_4 := blk_frozen BK113.out 4; have hfz20_5 := blk_frozen BK113.out 5; have hfz20_6 := blk_frozen BK113.out 6; have hfz20_7 := blk_frozen BK113.out 7))
       refine bodyPost_ret (results_ct rfl _ _ gb113 70 #[.string ((rd_T70 l0_1 x11_1).f0.f0), .int .i64 ((rd_T70 l0_1 x11_1).f0.f1), .int .i64 ((rd_T70 l0_1 x11_1).f0.f2), .int .i64 ((rd_T70 l0_1 x11_1).f0.f3), .bool ((rd_T70 l0_1 x11_1).f0.f4), .bool ((rd_T70 l0_1 x11_1).f0.f5), .slice Ao17 t116.length co17, .int .i64 ((rd_T70 l0_1 x11_1).f1)] (0, 0) _ rfl (by (with_reducible repeat (first | refine zN ?_ _ | refine zD ?_ | refine zA ?_ _)); refine blk_put (cs := #[.string ((rd_T70 l0_1 x11_1).f0.f0), .int .i64 ((rd_T70 l0_1 x11_1).f0.f1), .int .i64 ((rd_T70 l0_1 x11_1).f0.f2), .int .i64 ((rd_T70 l0_1 x11_1).f0.f3), .bool ((rd_T70 l0_1 x11_1).f0.f4), .bool ((rd_T70 l0_1 x11_1).f0.f5), .slice Ao17 t116.length co17, .int .i64 x114007_1]) ?_ 7 _ rfl; (with_reducible repeat (first | refine zN ?_ _ | refine zD ?_ | refine zA ?_ _)); refine blk_put (cs := #[.string ((rd_T70 l0_1 x11_1).f0.f0), .int .i64 ((rd_T70 l0_1 x11_1).f0.f1), .int .i64 ((rd_T70 l0_1 x11_1).f0.f2), .int .i64 ((rd_T70 l0_1 x11_1).f0.f3), .bool ((rd_T70 l0_1 x11_1).f0.f4), .bool ((rd_T70 l0_1 x11_1).f0.f5), .slice none 0 0, .int .i64 x114007_1]) ?_ 6 _ rfl; (with_reducible repeat (first | refine zN ?_ _ | refine zD ?_ | refine zA ?_ _)); refine blk_put (cs := #[.string ((rd_T70 l0_1 x11_1).f0.f0), .int .i64 ((rd_T70 l0_1 x11_1).f0.f1), .int .i64 ((rd_T70 l0_1 x11_1).f0.f2), .int .i64 ((rd_T70 l0_1 x11_1).f0.f3), .bool ((rd_T70 l0_1 x11_1).f0.f4), .bool x114005_1, .slice none 0 0, .int .i64 x114007_1]) ?_ 5 _ rfl; (with_reducible repeat (first | refine zN ?_ _ | refine zD ?_ | refine zA ?_ _)); refine blk_put (cs := #[.string ((rd_T70 l0_1 x11_1).f0.f0), .int .i64 ((rd_T70 l0_1 x11_1).f0.f1), .int .i64 ((rd_T70 l0_1 x11_1).f0.f2), .int .i64 ((rd_T70 l0_1 x11_1).f0.f3), .bool x114004_1, .bool x114005_1, .slice none 0 0, .int .i64 x114007_1]) ?_ 4 _ rfl; (with_reducible repeat (first | refine zN ?_ _ | refine zD ?_ | refine zA ?_ _)); refine blk_put (cs := #[.string ((rd_T70 l0_1 x11_1).f0.f0), .int .i64 ((rd_T70 l0_1 x11_1).f0.f1), .int .i64 ((rd_T70 l0_1 x11_1).f0.f2), .int .i64 x114003_1, .bool x114004_1, .bool x114005_1, .slice none 0 0, .int .i64 x114007_1]) ?_ 3 _ rfl; (with_reducible repeat (first | refine zN ?_ _ | refine zD ?_ | refine zA ?_ _)); refine blk_put (cs := #[.string ((rd_T70 l0_1 x11_1).f0.f0), .int .i64 ((rd_T70 l0_1 x11_1).f0.f1), .int .i64 x114002_1, .int .i64 x114003_1, .bool x114004_1, .bool x114005_1, .slice none 0 0, .int .i64 x114007_1]) ?_ 2 _ rfl; (with_reducible repeat (first | refine zN ?_ _ | refine zD ?_ | refine zA ?_ _)); refine blk_put (cs := #[.string ((rd_T70 l0_1 x11_1).f0.f0), .int .i64 x114001_1, .int .i64 x114002_1, .int .i64 x114003_1, .bool x114004_1, .bool x114005_1, .slice none 0 0, .int .i64 x114007_1]) ?_ 1 _ rfl; (with_reducible repeat (first | refine zN ?_ _ | refine zD ?_ | refine zA ?_ _)); refine blk_put (cs := #[.string x114000_1, .int .i64 x114001_1, .int .i64 x114002_1, .int .i64 x114003_1, .bool x114004_1, .bool x114005_1, .slice none 0 0, .int .i64 x114007_1]) ?_ 0 _ rfl; (with_reducible repeat (first | refine zN ?_ _ | refine zD ?_ | refine zA ?_ _)); refine blk_far ?_ NB113_115.out _; (with_reducible repeat (first | refine zN ?_ _ | refine zD ?_ | refine zA ?_ _)); exact BK113.out) Tryz.underlying70 rfl (by kernel_rfl)) rfl ?_
       exact ⟨_, by first | rfl | (simp [errW_none, errW_some] <;> rfl) | (simp [*, errW_none, errW_some] <;> rfl), by (with_reducible repeat (first | apply Kd.R_alloc | apply Kd.R_drewN | apply Kd.R_drew)); exact Kd.R_mono (Kd.R_far (p := ⟨gb113, 7, none⟩) (Kd.R_far (p := ⟨gb113, 6, none⟩) (Kd.R_far (p := ⟨gb113, 5, none⟩) (Kd.R_far (p := ⟨gb113, 4, none⟩) (Kd.R_far (p := ⟨gb113, 3, none⟩) (Kd.R_far (p := ⟨gb113, 2, none⟩) (Kd.R_far (p := ⟨gb113, 1, none⟩) (Kd.R_far (p := ⟨gb113, 0, none⟩) (Kd.R_far (p := ⟨gb115, 6, none⟩) (Kd.R_types (Kd.R_types HO118.out BK115.out (by decide)) BK113.out (by decide)) (fun _ hk => hk.1.2) (.slice Ao17 t116.length co17)) (fun _ hk => hk.2) (.string ((rd_T70 l0_1 x11_1).f0.f0))) (fun _ hk => hk.2) (.int .i64 ((rd_T70 l0_1 x11_1).f0.f1))) (fun _ hk => hk.2) (.int .i64 ((rd_T70 l0_1 x11_1).f0.f2))) (fun _ hk => hk.2) (.int .i64 ((rd_T70 l0_1 x11_1).f0.f3))) (fun _ hk => hk.2) (.bool ((rd_T70 l0_1 x11_1).f0.f4))) (fun _ hk => hk.2) (.bool ((rd_T70 l0_1 x11_1).f0.f5))) (fun _ hk => hk.2) (.slice Ao17 t116.length co17)) (fun _ hk => hk.2) (.int .i64 ((rd_T70 l0_1 x11_1).f1))) (fun _ hk => trivial), by repeat (first | (with_reducible first | exact HB.out | apply below_alloc | apply pw_below_drewN | apply below_drew1 | refine below_set ?_ GE112.out | refine below_set ?_ GE113.out | refine below_set ?_ GE115.out) | exact HB.out)⟩
      ·
       rw [if_neg c10] at H
       have c10b0 : (((rd_T70 l0_1 x11_1).f0.f0).toList == a1.toList) = false := beq_eq_false_iff_ne.mpr c10
       have c10b1 : (((rd_T70 l0_1 x11_1).f0.f0).toList != a1.toList) = true := bne_iff_ne.mpr c10
       have H' := Aside0.mk H
       clear H
       have p114 : 0 ≤ (x11_1 : Int) := of_decide_eq_true (by first | (with_reducible assumption) | assumption)
       have q114 : x11_1 < (l0_1.length : Int) := of_decide_eq_true (by first | (with_reducible assumption) | assumption)
       obtain ⟨ad114, A114_6, c114_6, e114, hx114_0, hx114_1, hx114_2, hx114_3, hx114_4, hx114_5, hx114_6, hx114_7, hl114_6, hi114_6⟩ := at_T70 HR0_1.out x11_1 p114 q114
       cases e114
       replace hx114_0 := (HB.out.cell (World.block_lt_of_cell? w _ hx114_0)).trans hx114_0
       replace hx114_1 := (HB.out.cell (World.block_lt_of_cell? w _ hx114_1)).trans hx114_1
       replace hx114_2 := (HB.out.cell (World.block_lt_of_cell? w _ hx114_2)).trans hx114_2
       replace hx114_3 := (HB.out.cell (World.block_lt_of_cell? w _ hx114_3)).trans hx114_3
       replace hx114_4 := (HB.out.cell (World.block_lt_of_cell? w _ hx114_4)).trans hx114_4
       replace hx114_5 := (HB.out.cell (World.block_lt_of_cell? w _ hx114_5)).trans hx114_5
       replace hx114_6 := (HB.out.cell (World.block_lt_of_cell? w _ hx114_6)).trans hx114_6
       replace hx114_7 := (HB.out.cell (World.block_lt_of_cell? w _ hx114_7)).trans hx114_7
       have HR114_6 := Aside0.mk hi114_6
       have HC114_6 := Aside0.mk hl114_6
       clear hi114_6 hl114_6
       replace p114 := eq_true p114
       replace q114 := eq_true q114
       go_wp2_with (first | ((with_reducible refine gate_dst (N := 7) rfl ?_); refine box_event ?hg (N := 7) ?hd (cs := #[.string (⟨#[]⟩ : ByteArray), .int .i64 0, .int .i64 0, .int .i64 0, .bool false, .bool false, .slice none 0 0, .int .i64 0]) (t := 70) ?hr ?_; (case hd => rfl); (case hg => rfl); (case hr => first | (go_simp; done) | (go_simp; rfl)); intro gb115 hg w21 hbox hb; have n0_ := Aside0.mk (blk_below (g := gb112) (o := .cells #[.int .i64 a0_0, .slice (some ad114) l0_1.length c0_1] 59 (0, 0)) (by (with_reducible repeat (first | refine zN ?_ _ | refine zD ?_ | refine zA ?_ _)); exact BK112.out) hb); have n1_ := Aside0.mk (blk_below (g := gb113) (o := .cells #[.string x114000_1, .int .i64 x114001_1, .int .i64 x114002_1, .int .i64 x114003_1, .bool x114004_1, .bool x114005_1, .slice none 0 0, .int .i64 x114007_1] 70 (0, 0)) (by (with_reducible repeat (first | refine zN ?_ _ | refine zD ?_ | refine zA ?_ _)); exact BK113.out) hb); have n2_ := Aside0.mk (below_step (by repeat (first | (with_reducible first | exact HB.out | apply below_alloc | apply pw_below_drewN | apply below_drew1 | refine below_set ?_ GE112.out | refine below_set ?_ GE113.out) | exact HB.out)) hb); have n3_ := Aside0.mk (hbox); have n4_ := Aside0.mk ((by rw [hg]; exact (below_size (by repeat (first | (with_reducible first | exact HB.out | apply below_alloc | apply pw_below_drewN | apply below_drew1 | refine below_set ?_ GE112.out | refine below_set ?_ GE113.out) | exact HB.out))) : w.heap.size ≤ gb115)); have n5_ := Aside0.mk ((by rw [hg]; exact (below_size (by repeat (first | (with_reducible first | exact HB.out | apply below_alloc | apply pw_below_drewN | apply below_drew1 | refine below_set ?_ GE112.out | refine below_set ?_ GE113.out) | exact HB.out))) : w.heap.size ≤ gb115)); have n6_ := Aside0.mk ((by rw [hg]; exact Nat.ne_of_lt (blk_lt (g := gb112) (o := .cells #[.int .i64 a0_0, .slice (some ad114) l0_1.length c0_1] 59 (0, 0)) (by (with_reducible repeat (first | refine zN ?_ _ | refine zD ?_ | refine zA ?_ _)); exact BK112.out)) : gb112 ≠ gb115)); have n7_ := Aside0.mk ((by rw [hg]; exact Nat.ne_of_gt (blk_lt (g := gb112) (o := .cells #[.int .i64 a0_0, .slice (some ad114) l0_1.length c0_1] 59 (0, 0)) (by (with_reducible repeat (first | refine zN ?_ _ | refine zD ?_ | refine zA ?_ _)); exact BK112.out)) : gb115 ≠ gb112)); have n8_ := Aside0.mk ((by rw [hg]; exact Nat.ne_of_lt (blk_lt (g := gb113) (o := .cells #[.string x114000_1, .int .i64 x114001_1, .int .i64 x114002_1, .int .i64 x114003_1, .bool x114004_1, .bool x114005_1, .slice none 0 0, .int .i64 x114007_1] 70 (0, 0)) (by (with_reducible repeat (first | refine zN ?_ _ | refine zD ?_ | refine zA ?_ _)); exact BK113.out)) : gb113 ≠ gb115)); have n9_ := Aside0.mk ((by rw [hg]; exact Nat.ne_of_gt (blk_lt (g := gb113) (o := .cells #[.string x114000_1, .int .i64 x114001_1, .int .i64 x114002_1, .int .i64 x114003_1, .bool x114004_1, .bool x114005_1, .slice none 0 0, .int .i64 x114007_1] 70 (0, 0)) (by (with_reducible repeat (first | refine zN ?_ _ | refine zD ?_ | refine zA ?_ _)); exact BK113.out)) : gb115 ≠ gb113)); clear BK112; clear BK113; clear HB; have BK112 := n0_; have BK113 := n1_; have HB := n2_; have BK115 := n3_; have GW115 := n4_; have GE115 := n5_; have NB112_115 := n6_; have NB115_112 := n7_; have NB113_115 := n8_; have NB115_113 := n9_; clear n0_ n1_ n2_ n3_ n4_ n5_ n6_ n7_ n8_ n9_; clear hb hbox hg; have hnb22 := NB115_112.out; have hnc22 := NB112_115.out; have hnb23 := NB115_113.out; have hnc23 := NB113_115.out; have hcz24_0 : w21.cell? ⟨gb115, 0, none⟩ = some (.string (⟨#[]⟩ : ByteArray)) := (blk_cell BK115.out 0).trans rfl; have hcz24_1 : w21.cell? ⟨gb115, 1, none⟩ = some (.int .i64 0) := (blk_cell BK115.out 1).trans rfl; have hcz24_2 : w21.cell? ⟨gb115, 2, none⟩ = some (.int .i64 0) := (blk_cell BK115.out 2).trans rfl; have hcz24_3 : w21.cell? ⟨gb115, 3, none⟩ = some (.int .i64 0) := (blk_cell BK115.out 3).trans rfl; have hcz24_4 : w21.cell? ⟨gb115, 4, none⟩ = some (.bool false) := (blk_cell BK115.out 4).trans rfl; have hcz24_5 : w21.cell? ⟨gb115, 5, none⟩ = some (.bool false) := (blk_cell BK115.out 5).trans rfl; have hcz24_6 : w21.cell? ⟨gb115, 6, none⟩ = some (.slice none 0 0) := (blk_cell BK115.out 6).trans rfl; have hcz24_7 : w21.cell? ⟨gb115, 7, none⟩ = some (.int .i64 0) := (blk_cell BK115.out 7).trans rfl; have hfz24_0 := blk_frozen BK115.out 0; have hfz24_1 := blk_frozen BK115.out 1; have hfz24_2 := blk_frozen BK115.out 2; have hfz24_3 := blk_frozen BK115.out 3; have hfz24_4 := blk_frozen BK115.out 4; have hfz24_5 := blk_frozen BK115.out 5; have hfz24_6 := blk_frozen BK115.out 6; have hfz24_7 := blk_frozen BK115.out 7))
       go_roundg k1
       case measure => have := HK1.out; omega
       case rel => exact ⟨(wrap64 (x11_1 + 1)), (x114000_1), (x114001_1), (x114002_1), (x114003_1), (x114004_1), (x114005_1), (x114007_1), (by first | rfl | (simp; done) | (simp [*]; done)), H', ⟨by have := HK1.out; omega⟩, ⟨by (with_reducible repeat (first | refine zN ?_ _ | refine zD ?_ | refine zA ?_ _)); refine blk_far ?_ NB112_115.out _; (with_reducible repeat (first | refine zN ?_ _ | refine zD ?_ | refine zA ?_ _)); refine blk_far ?_ NB112_115.out _; (with_reducible repeat (first | refine zN ?_ _ | refine zD ?_ | refine zA ?_ _)); refine blk_far ?_ NB112_115.out _; (with_reducible repeat (first | refine zN ?_ _ | refine zD ?_ | refine zA ?_ _)); refine blk_far ?_ NB112_115.out _; (with_reducible repeat (first | refine zN ?_ _ | refine zD ?_ | refine zA ?_ _)); refine blk_far ?_ NB112_115.out _; (with_reducible repeat (first | refine zN ?_ _ | refine zD ?_ | refine zA ?_ _)); refine blk_far ?_ NB112_115.out _; (with_reducible repeat (first | refine zN ?_ _ | refine zD ?_ | refine zA ?_ _)); refine blk_far ?_ NB112_115.out _; (with_reducible repeat (first | refine zN ?_ _ | refine zD ?_ | refine zA ?_ _)); refine blk_far ?_ NB112_115.out _; (with_reducible repeat (first | refine zN ?_ _ | refine zD ?_ | refine zA ?_ _)); exact BK112.out⟩, ⟨by (with_reducible repeat (first | refine zN ?_ _ | refine zD ?_ | refine zA ?_ _)); refine blk_far ?_ NB113_115.out _; (with_reducible repeat (first | refine zN ?_ _ | refine zD ?_ | refine zA ?_ _)); refine blk_far ?_ NB113_115.out _; (with_reducible repeat (first | refine zN ?_ _ | refine zD ?_ | refine zA ?_ _)); refine blk_far ?_ NB113_115.out _; (with_reducible repeat (first | refine zN ?_ _ | refine zD ?_ | refine zA ?_ _)); refine blk_far ?_ NB113_115.out _; (with_reducible repeat (first | refine zN ?_ _ | refine zD ?_ | refine zA ?_ _)); refine blk_far ?_ NB113_115.out _; (with_reducible repeat (first | refine zN ?_ _ | refine zD ?_ | refine zA ?_ _)); refine blk_far ?_ NB113_115.out _; (with_reducible repeat (first | refine zN ?_ _ | refine zD ?_ | refine zA ?_ _)); refine blk_far ?_ NB113_115.out _; (with_reducible repeat (first | refine zN ?_ _ | refine zD ?_ | refine zA ?_ _)); refine blk_far ?_ NB113_115.out _; (with_reducible repeat (first | refine zN ?_ _ | refine zD ?_ | refine zA ?_ _)); exact BK113.out⟩, ⟨by repeat (first | (with_reducible first | exact HB.out | apply below_alloc | apply pw_below_drewN | apply below_drew1 | refine below_set ?_ GE112.out | refine below_set ?_ GE113.out | refine below_set ?_ GE115.out) | exact HB.out)⟩⟩
     ·
      rw [if_neg c9] at H
      exact absurd H (by simp)
    ·
     rw [if_neg c8] at H
     exact absurd H (by simp)
   ·
    rw [if_neg c7] at H
    have c7b0 : decide (x11_1 < (l0_1.length : Int)) = false := decide_eq_false c7
    clear c7
    simp only [Option.some.injEq, Prod.mk.injEq] at H
    obtain ⟨rfl, rfl, rfl, rfl, rfl, rfl, rfl, rfl, rfl⟩ := H
    have hnb25 := NB113_112.out
    have hnc25 := NB112_113.out
    have hcz26_0 : wr.cell? ⟨gb113, 0, none⟩ = some (.string x114000_1) := (blk_cell BK113.out 0).trans rfl
    have hcz26_1 : wr.cell? ⟨gb113, 1, none⟩ = some (.int .i64 x114001_1) := (blk_cell BK113.out 1).trans rfl
    have hcz26_2 : wr.cell? ⟨gb113, 2, none⟩ = some (.int .i64 x114002_1) := (blk_cell BK113.out 2).trans rfl
    have hcz26_3 : wr.cell? ⟨gb113, 3, none⟩ = some (.int .i64 x114003_1) := (blk_cell BK113.out 3).trans rfl
    have hcz26_4 : wr.cell? ⟨gb113, 4, none⟩ = some (.bool x114004_1) := (blk_cell BK113.out 4).trans rfl
    have hcz26_5 : wr.cell? ⟨gb113, 5, none⟩ = some (.bool x114005_1) := (blk_cell BK113.out 5).trans rfl
    have hcz26_6 : wr.cell? ⟨gb113, 6, none⟩ = some (.slice none 0 0) := (blk_cell BK113.out 6).trans rfl
    have hcz26_7 : wr.cell? ⟨gb113, 7, none⟩ = some (.int .i64 x114007_1) := (blk_cell BK113.out 7).trans rfl
    have hfz26_0 := blk_frozen BK113.out 0
    have hfz26_1 := blk_frozen BK113.out 1
    have hfz26_2 := blk_frozen BK113.out 2
    have hfz26_3 := blk_frozen BK113.out 3
    have hfz26_4 := blk_frozen BK113.out 4
    have hfz26_5 := blk_frozen BK113.out 5
    have hfz26_6 := blk_frozen BK113.out 6
    have hfz26_7 := blk_frozen BK113.out 7
    go_wp2
    refine bodyPost_ret (results_ct rfl _ _ gb113 70 #[.string (⟨#[]⟩ : ByteArray), .int .i64 0, .int .i64 0, .int .i64 0, .bool false, .bool false, .slice none 0 0, .int .i64 0] (0, 0) _ rfl (by (with_reducible repeat (first | refine zN ?_ _ | refine zD ?_ | refine zA ?_ _)); refine blk_put (cs := #[.string (⟨#[]⟩ : ByteArray), .int .i64 0, .int .i64 0, .int .i64 0, .bool false, .bool false, .slice none 0 0, .int .i64 x114007_1]) ?_ 7 _ rfl; (with_reducible repeat (first | refine zN ?_ _ | refine zD ?_ | refine zA ?_ _)); refine blk_put (cs := #[.string (⟨#[]⟩ : ByteArray), .int .i64 0, .int .i64 0, .int .i64 0, .bool false, .bool false, .slice none 0 0, .int .i64 x114007_1]) ?_ 6 _ rfl; (with_reducible repeat (first | refine zN ?_ _ | refine zD ?_ | refine zA ?_ _)); refine blk_put (cs := #[.string (⟨#[]⟩ : ByteArray), .int .i64 0, .int .i64 0, .int .i64 0, .bool false, .bool x114005_1, .slice none 0 0, .int .i64 x114007_1]) ?_ 5 _ rfl; (with_reducible repeat (first | refine zN ?_ _ | refine zD ?_ | refine zA ?_ _)); refine blk_put (cs := #[.string (⟨#[]⟩ : ByteArray), .int .i64 0, .int .i64 0, .int .i64 0, .bool x114004_1, .bool x114005_1, .slice none 0 0, .int .i64 x114007_1]) ?_ 4 _ rfl; (with_reducible repeat (first | refine zN ?_ _ | refine zD ?_ | refine zA ?_ _)); refine blk_put (cs := #[.string (⟨#[]⟩ : ByteArray), .int .i64 0, .int .i64 0, .int .i64 x114003_1, .bool x114004_1, .bool x114005_1, .slice none 0 0, .int .i64 x114007_1]) ?_ 3 _ rfl; (with_reducible repeat (first | refine zN ?_ _ | refine zD ?_ | refine zA ?_ _)); refine blk_put (cs := #[.string (⟨#[]⟩ : ByteArray), .int .i64 0, .int .i64 x114002_1, .int .i64 x114003_1, .bool x114004_1, .bool x114005_1, .slice none 0 0, .int .i64 x114007_1]) ?_ 2 _ rfl; (with_reducible repeat (first | refine zN ?_ _ | refine zD ?_ | refine zA ?_ _)); refine blk_put (cs := #[.string (⟨#[]⟩ : ByteArray), .int .i64 x114001_1, .int .i64 x114002_1, .int .i64 x114003_1, .bool x114004_1, .bool x114005_1, .slice none 0 0, .int .i64 x114007_1]) ?_ 1 _ rfl; (with_reducible repeat (first | refine zN ?_ _ | refine zD ?_ | refine zA ?_ _)); refine blk_put (cs := #[.string x114000_1, .int .i64 x114001_1, .int .i64 x114002_1, .int .i64 x114003_1, .bool x114004_1, .bool x114005_1, .slice none 0 0, .int .i64 x114007_1]) ?_ 0 _ rfl; (with_reducible repeat (first | refine zN ?_ _ | refine zD ?_ | refine zA ?_ _)); exact BK113.out) Tryz.underlying70 rfl (by kernel_rfl)) rfl ?_
    exact ⟨_, by first | rfl | (simp [errW_none, errW_some] <;> rfl) | (simp [*, errW_none, errW_some] <;> rfl), by first | exact Kd.R_nil _ _ _ _ _ | exact Kd.N_nil _ _ _ _ _ | exact Kd.V_nil _ _ _ _ _ | exact Kd.Q_nil _ _ _ _ _ | exact Kd.S_nil _ _ _ _ _, by repeat (first | (with_reducible first | exact HB.out | apply below_alloc | apply pw_below_drewN | apply below_drew1 | refine below_set ?_ GE112.out | refine below_set ?_ GE113.out) | exact HB.out)⟩
end Go.Proofs.YtcoaajkhfgakgaaGreatDoor.Pr
end

section
namespace Go.Proofs.YtcoaajkhfgakgaaGreatDoor.Pr
open Go.RowKit Go.Proofs.YtcoaajkhfgakgaaGreatDoorW.PrintWords Go.Proofs.YtcoaajkhfgakgaaGreatDoorW.PrintLast Go.Proofs.YtcoaajkhfgakgaaGreatDoorW.PrintMore
set_option linter.unusedVariables false
set_option linter.unusedSimpArgs false
theorem rd_rules (l : List S70) (i : Nat) (h : i < l.length) : rd_T70 l (i : Int) = l[i] := by
  unfold rd_T70
  rw [show ((i : Int)).toNat = i from by simp, List.getD_eq_getElem?_getD, List.getElem?_eq_getElem h]
  rfl
def idxR (p : S70 → Bool) : List S70 → Int → Int
  | [], _ => -1
  | x :: r, i => if p x = true then i else idxR p r (i + 1)
theorem idxR_any (p : S70 → Bool) : ∀ (l : List S70) (i : Int), 0 ≤ i → (decide (0 ≤ idxR p l i) = l.any p)
  | [], i, _ => by simp [idxR]
  | x :: r, i, h => by
    unfold idxR
    split
    · rename_i hp
      simp [hp, h]
    · rename_i hp
      rw [idxR_any p r (i + 1) (by omega)]
      simp [hp]
theorem idxR_step (p : S70 → Bool) (l : List S70) (k : Nat) (h : k < l.length) : idxR p (l.drop k) k = if p (rd_T70 l (k : Int)) = true then (k : Int) else idxR p (l.drop (k + 1)) ((k : Int) + 1) := by
  rw [List.drop_eq_getElem_cons h, idxR, rd_rules l k h]
def cellsR (x : S70) (A6 : Option Addr) (c6 : Nat) : Array Value := #[.string x.f0.f0, .int .i64 x.f0.f1, .int .i64 x.f0.f2, .int .i64 x.f0.f3, .bool x.f0.f4, .bool x.f0.f5, .slice A6 x.f0.f6.length c6, .int .i64 x.f1]
set_option maxRecDepth 100000 in
set_option maxHeartbeats 4000000 in
theorem rules_IndexFunc_calls (p : S70 → Bool) (g : Nat) (lb : Array Value) (A0 : Option Addr) (c0 : Nat) (l0 : List S70) (w : World) (eg : ∀ args w, (callFunc g args).run Tryz.prog w = .ok (.enter g args) w)
    (hr0 : Kd.C k70 w A0 l0.length l0) (hp : ∀ W x A6 c6, Below w.heap.size w W → Calls Tryz.prog g (#[.agg (cellsR x A6 c6)] ++ lb) W fun e w' => e = .returned (.bool (p x)) ∧ Below w.heap.size w w') :
    Calls Tryz.prog 97 #[.slice A0 l0.length c0, .func (.func g) #[] lb] w fun e w' => e = .returned (.int .i64 (idxR p l0 0)) ∧ Below w.heap.size w w' := by
  have hu := Tryz.underlying70
  have HR0 := Aside0.mk hr0
  have hmax : l0.length ≤ 9223372036854775807 := hr0.2.1
  have HP := Aside0.mk hp
  clear hr0 hp
  go_enter Tryz.func97, Tryz.ntmps97
  go_wp2
  go_loopw [5, 8] (fun _ s8 wr => ∃ kk : Nat, kk ≤ l0.length ∧ s8 = .int .i64 kk ∧ Aside0 (Below w.heap.size w wr) ∧ Aside0 (idxR p (l0.drop kk) kk = idxR p l0 0)) (fun _ s8 _ => l0.length - (intOf s8).toNat)
  case atStart => exact ⟨0, Nat.zero_le _, rfl, ⟨Below.refl _ w⟩, ⟨rfl⟩⟩
  case round =>
    obtain ⟨kk, hkk, rfl, BW, A⟩ := hrel
    by_cases hlt : kk < l0.length
    · have hltz : (kk : Int) < (l0.length : Int) := by omega
      have hz : (0 : Int) ≤ (kk : Int) := by omega
      obtain ⟨ad, A6, c6, e1, x0, x1, x2, x3, x4, x5, x6, x7, _, _⟩ := at_T70 HR0.out (kk : Int) (by omega) (by omega)
      cases e1
      have hst := idxR_step p l0 kk hlt
      have hcall := HP.out wr (rd_T70 l0 (kk : Int)) A6 c6 BW.out
      unfold cellsR at hcall
      generalize rd_T70 l0 (kk : Int) = x at *
      replace x0 := (BW.out.cell (World.block_lt_of_cell? w _ x0)).trans x0
      replace x1 := (BW.out.cell (World.block_lt_of_cell? w _ x1)).trans x1
      replace x2 := (BW.out.cell (World.block_lt_of_cell? w _ x2)).trans x2
      replace x3 := (BW.out.cell (World.block_lt_of_cell? w _ x3)).trans x3
      replace x4 := (BW.out.cell (World.block_lt_of_cell? w _ x4)).trans x4
      replace x5 := (BW.out.cell (World.block_lt_of_cell? w _ x5)).trans x5
      replace x6 := (BW.out.cell (World.block_lt_of_cell? w _ x6)).trans x6
      replace x7 := (BW.out.cell (World.block_lt_of_cell? w _ x7)).trans x7
      simp only [Int.toNat_natCast] at x0 x1 x2 x3 x4 x5 x6 x7
      cases hq : p x with
      | true =>
        rw [hq] at hcall
        have HR : Aside0 (idxR p l0 0 = kk) := ⟨by rw [← A.out, hst, if_pos hq]⟩
        clear hst A hq
        go_wp2_with fail
        refine hcall.mono ?_
        rintro e w' ⟨rfl, hb'⟩
        clear x0 x1 x2 x3 x4 x5 x6 x7
        go_wp2
        go_ret
        exact ⟨congrArg (fun z => Ending.returned (.int .i64 z)) HR.out.symm, by assumption⟩
      | false =>
        rw [hq] at hcall
        have HR : Aside0 (idxR p (l0.drop (kk + 1)) ((kk + 1 : Nat) : Int) = idxR p l0 0) := ⟨by rw [← A.out, hst, if_neg (by rw [hq]; decide)]; rfl⟩
        clear hst A hq
        go_wp2_with fail
        refine hcall.mono ?_
        rintro e w' ⟨rfl, hb'⟩
        have HB2 := Aside0.mk hb'
        clear hb' x0 x1 x2 x3 x4 x5 x6 x7
        go_wp2
        go_roundw
        case rel => exact ⟨kk + 1, by omega, by go_num, HB2, HR⟩
        case measure => simp [intOf]; omega
    · have hltz : ¬ (kk : Int) < (l0.length : Int) := by omega
      have HR : Aside0 (idxR p l0 0 = -1) := ⟨by rw [← A.out, List.drop_eq_nil_of_le (by omega)]; rfl⟩
      clear A
      go_wp2
      go_ret
      exact ⟨congrArg (fun z => Ending.returned (.int .i64 z)) HR.out.symm, BW.out⟩
theorem rules_ContainsFunc_calls (p : S70 → Bool) (g : Nat) (lb : Array Value) (A0 : Option Addr) (c0 : Nat) (l0 : List S70) (w : World) (eg : ∀ args w, (callFunc g args).run Tryz.prog w = .ok (.enter g args) w)
    (hr0 : Kd.C k70 w A0 l0.length l0) (hp : ∀ W x A6 c6, Below w.heap.size w W → Calls Tryz.prog g (#[.agg (cellsR x A6 c6)] ++ lb) W fun e w' => e = .returned (.bool (p x)) ∧ Below w.heap.size w w') :
    Calls Tryz.prog 63 #[.slice A0 l0.length c0, .func (.func g) #[] lb] w fun e w' => e = .returned (.bool (l0.any p)) ∧ Below w.heap.size w w' := by
  have HC := Aside0.mk (rules_IndexFunc_calls p g lb A0 c0 l0 w eg hr0 hp)
  have HA := Aside0.mk (idxR_any p l0 0 (Int.le_refl _))
  clear hr0 hp eg
  generalize idxR p l0 0 = ix at *
  go_enter Tryz.func63, Tryz.ntmps63
  go_wp2_with fail
  refine HC.out.mono ?_
  rintro e w' ⟨rfl, hb⟩
  go_wp2
  go_ret
  exact ⟨congrArg (fun z => Ending.returned (.bool z)) HA.out, hb⟩
def badR (gen : Int) (x : S70) : Bool := decide (x.f1 < 1) || decide (x.f1 > gen)
set_option maxRecDepth 100000 in
theorem tableRight1_calls (gen : Int) (x : S70) (A6 : Option Addr) (c6 : Nat) (g : Nat) (w : World) (hc : w.cell? ⟨g, 0, none⟩ = some (.int .i64 gen)) :
    Calls Tryz.prog 64 (#[.agg (cellsR x A6 c6)] ++ #[.pointer (some ⟨g, 0, none⟩)]) w fun e w' => e = .returned (.bool (badR gen x)) ∧ Below w.heap.size w w' := by
  have hu := Tryz.underlying70
  have hu2 := Tryz.underlying59
  have hlt : g < w.heap.size := World.block_lt_of_cell? w _ hc
  unfold cellsR
  have hb := below_alloc (Below.refl w.heap.size w) (.cells #[.string x.f0.f0, .int .i64 x.f0.f1, .int .i64 x.f0.f2, .int .i64 x.f0.f3, .bool x.f0.f4, .bool x.f0.f5, .slice A6 x.f0.f6.length c6, .int .i64 x.f1] 70)
  have hc1 := pw_cell_below hb hc
  have HB := Aside0.mk hb
  clear hb
  by_cases t1 : x.f1 < 1
  · have E : Aside0 (true = badR gen x) := ⟨by simp [badR, t1]⟩
    show Calls Tryz.prog _ #[_, _] w _
    go_enter Tryz.func64, Tryz.ntmps64
    go_wp2
    go_ret
    exact ⟨congrArg (fun z => Ending.returned (.bool z)) E.out, HB.out⟩
  · have E : Aside0 (decide (x.f1 > gen) = badR gen x) := ⟨by simp [badR, t1]⟩
    show Calls Tryz.prog _ #[_, _] w _
    go_enter Tryz.func64, Tryz.ntmps64
    go_wp2
    go_ret
    exact ⟨congrArg (fun z => Ending.returned (.bool z)) E.out, HB.out⟩
theorem config_l0 (gen : Int) (l : List S70) (hl : l.length ≤ 137438953472) (hh : ∀ x ∈ l, x.f0.f6.length ≤ 8796093022208) : ∀ (d i k : Nat), l.length - i = d → i ≤ l.length → d < k →
    plan_Table_Config.l0 k l (l.length : Int) (i : Int) ((l.take i).map (·.f0)) = some (l.map (·.f0))
  | _, _, 0, _, _, hk => by omega
  | 0, i, k + 1, hd, hi, hk => by
    have : i = l.length := by omega
    subst this
    unfold plan_Table_Config.l0
    rw [if_neg (by omega), List.take_length]
  | d + 1, i, k + 1, hd, hi, hk => by
    have hlt : i < l.length := by omega
    unfold plan_Table_Config.l0
    have h6 := hh l[i] (List.getElem_mem hlt)
    have hw : wrap64 ((i : Int) + 1) = ((i + 1 : Nat) : Int) := by unfold wrap64; omega
    rw [if_pos (by omega), if_pos (by omega), if_pos (by omega), rd_rules l i hlt]
    simp only [slices_Clone_string_string.f, h6, if_true, Option.bind_some]
    rw [if_pos (by simp; omega), hw]
    have ht : (l.take i).map (·.f0) ++ [(⟨l[i].f0.f0, l[i].f0.f1, l[i].f0.f2, l[i].f0.f3, l[i].f0.f4, l[i].f0.f5, l[i].f0.f6⟩ : S52)] = (l.take (i + 1)).map (·.f0) := by
      rw [List.take_succ_eq_append_getElem hlt, List.map_append]
      rfl
    rw [ht]
    exact config_l0 gen l hl hh d (i + 1) k (by omega) (by omega) (by omega)
theorem config_of (gen : Int) (l : List S70) (hl : l.length ≤ 137438953472) (hh : ∀ x ∈ l, x.f0.f6.length ≤ 8796093022208) (k : Nat) (hk : l.length < k) : plan_Table_Config.f k gen l = some (l.map (·.f0)) :=
  config_l0 gen l hl hh l.length 0 k rfl (Nat.zero_le _) hk
def tableB (gen : Int) (l : List S70) : Bool := decide (0 ≤ gen) && decide (gen ≤ 253402300799) && rightB (l.map (·.f0)) && !(l.any (badR gen))
def plan_Table_Right.f (a0_0 : Int) (l0_1 : List (S70)) : Option (Bool) := if l0_1.length ≤ 137438953472 ∧ (l0_1.map (·.f0)).all okSite = true then some (tableB a0_0 l0_1) else none
set_option maxRecDepth 100000 in
set_option maxHeartbeats 4000000 in
theorem plan_Table_Right.calls (a0_0 : Int) (A0_1 : Option Addr) (c0_1 : Nat) (l0_1 : List (S70)) (r : Bool) (w : World) (hr0_1 : Kd.C k70 w A0_1 l0_1.length l0_1) (hc0_1 : l0_1.length ≤ c0_1) (h : plan_Table_Right.f a0_0 l0_1 = some r) :
    Calls Tryz.prog 29 #[.agg #[.int .i64 a0_0, .slice A0_1 l0_1.length c0_1]] w fun e w' => e = .returned (.bool r) ∧ Below w.heap.size w w' := by
  have hu := Tryz.underlying59
  have hb : l0_1.length ≤ 137438953472 ∧ (l0_1.map (·.f0)).all okSite = true := by
    unfold plan_Table_Right.f at h
    split at h
    · assumption
    · cases h
  have hr : tableB a0_0 l0_1 = r := by
    unfold plan_Table_Right.f at h
    rw [if_pos hb] at h
    injection h
  clear h
  obtain ⟨hb1, hb2⟩ := hb
  have hb6 : ∀ x ∈ l0_1, x.f0.f6.length ≤ 8796093022208 := fun x hx => by
    have := List.all_eq_true.1 hb2 x.f0 (List.mem_map.2 ⟨x, hx, rfl⟩)
    unfold okSite smallHeads at this
    simp only [Bool.and_eq_true, decide_eq_true_eq] at this
    have := this.2.1
    omega
  have STOP : ∀ b : Bool, tableB a0_0 l0_1 = b → Ending.returned (.bool b) = .returned (.bool r) := fun b e => by rw [← hr, e]
  have STOP := Aside0.mk STOP
  clear hr
  have hbk := heap_alloc_new w (.cells #[.int .i64 a0_0, .slice A0_1 l0_1.length c0_1] 59)
  have hB := below_alloc (Below.refl w.heap.size w) (.cells #[.int .i64 a0_0, .slice A0_1 l0_1.length c0_1] 59)
  have c0 : (w.alloc (.cells #[.int .i64 a0_0, .slice A0_1 l0_1.length c0_1] 59)).cell? ⟨w.heap.size, 0, none⟩ = some (.int .i64 a0_0) := (blk_cell hbk 0).trans rfl
  have c1 : (w.alloc (.cells #[.int .i64 a0_0, .slice A0_1 l0_1.length c0_1] 59)).cell? ⟨w.heap.size, 1, none⟩ = some (.slice A0_1 l0_1.length c0_1) := (blk_cell hbk 1).trans rfl
  have HCFG := Aside0.mk (plan_Table_Config.calls (l0_1.length + 1) a0_0 A0_1 c0_1 l0_1 _ (w.alloc (.cells #[.int .i64 a0_0, .slice A0_1 l0_1.length c0_1] 59)) (Kd.C_below hr0_1 hB) hc0_1 (config_of a0_0 l0_1 hb1 hb6 (l0_1.length + 1) (by omega)))
  have HBK := Aside0.mk hbk
  have HB := Aside0.mk hB
  have HRD := Aside0.mk hr0_1
  have HCR := Aside0.mk (fun A c W (h1 : Kd.C k52 W A (l0_1.map (·.f0)).length (l0_1.map (·.f0))) (h2 : (l0_1.map (·.f0)).length ≤ c) => conf_Config_Right.calls A c (l0_1.map (·.f0)) (rightB (l0_1.map (·.f0))) W h1 h2 (by unfold conf_Config_Right.f; rw [if_pos ⟨by rw [List.length_map]; omega, hb2⟩]))
  clear hb2 hb6 hbk hB hr0_1 hc0_1
  by_cases t1 : a0_0 < 0
  case pos =>
    have E : Aside0 (tableB a0_0 l0_1 = false) := ⟨by simp [tableB, Int.not_le.2 t1]⟩
    clear HCFG HCR
    go_enter Tryz.func29, Tryz.ntmps29
    go_wp2
    go_ret
    exact ⟨STOP.out _ E.out, HB.out⟩
  case neg =>
  by_cases t2 : a0_0 > 253402300799
  case pos =>
    have E : Aside0 (tableB a0_0 l0_1 = false) := ⟨by
      have h9 : ¬ a0_0 ≤ 253402300799 := by omega
      simp [tableB, h9]⟩
    clear HCFG HCR
    go_enter Tryz.func29, Tryz.ntmps29
    go_wp2
    go_ret
    exact ⟨STOP.out _ E.out, HB.out⟩
  case neg =>
  have HT : Aside0 (tableB a0_0 l0_1 = (rightB (l0_1.map (·.f0)) && !(l0_1.any (badR a0_0)))) := ⟨by
    have g1 : 0 ≤ a0_0 := by omega
    have g2 : a0_0 ≤ 253402300799 := by omega
    simp [tableB, g1, g2]⟩
  generalize l0_1.map (·.f0) = cfg at *
  go_enter Tryz.func29, Tryz.ntmps29
  go_wp2_with fail
  refine HCFG.out.mono ?_
  rintro e w1 ⟨v0, rfl, hS, hb1'⟩
  obtain ⟨A1, c1', rfl, hlc1, hC1⟩ := Kd.S_reads hS
  have HCALL := Aside0.mk (HCR.out A1 c1' w1 hC1 hlc1)
  have HB1 := Aside0.mk (below_then HB.out HB.out.size hb1')
  have hbk1 := (hb1'.block _ (blk_lt HBK.out)).trans HBK.out
  have HBK1 := Aside0.mk hbk1
  clear hS hb1' hC1 hbk1 HCR HCFG HBK c0 c1
  go_wp2_with fail
  refine HCALL.out.mono ?_
  rintro e w2 ⟨rfl, hb2'⟩
  have HB2 := Aside0.mk (below_then HB1.out HB1.out.size hb2')
  have hbk2 := (hb2'.block _ (blk_lt HBK1.out)).trans HBK1.out
  have c0 : w2.cell? ⟨w.heap.size, 0, none⟩ = some (.int .i64 a0_0) := (blk_cell hbk2 0).trans rfl
  have c1 : w2.cell? ⟨w.heap.size, 1, none⟩ = some (.slice A0_1 l0_1.length c0_1) := (blk_cell hbk2 1).trans rfl
  clear hb2' hbk2 HCALL
  cases hq : rightB cfg with
  | false =>
    have E : Aside0 (tableB a0_0 l0_1 = false) := ⟨by rw [HT.out, hq]; rfl⟩
    clear hq
    go_wp2
    go_ret
    exact ⟨STOP.out _ E.out, HB2.out⟩
  | true =>
  have E : Aside0 (tableB a0_0 l0_1 = !(l0_1.any (badR a0_0))) := ⟨by rw [HT.out, hq]; rfl⟩
  clear hq
  have HCF := Aside0.mk (rules_ContainsFunc_calls (badR a0_0) 64 #[.pointer (some ⟨w.heap.size, 0, none⟩)] A0_1 c0_1 l0_1 w2 (enters_ (hf := rfl) rfl rfl) (Kd.C_below HRD.out HB2.out) (fun W x A6 c6 hbw => (tableRight1_calls a0_0 x A6 c6 w.heap.size W (pw_cell_below hbw c0)).mono (fun e w' h => ⟨h.1, below_then hbw hbw.size h.2⟩)))
  go_wp2_with fail
  refine HCF.out.mono ?_
  rintro e w3 ⟨rfl, hb3⟩
  have HB3 := Aside0.mk (below_then HB2.out HB2.out.size hb3)
  generalize (l0_1.any (badR a0_0)) = q at *
  clear HCF hb3
  go_wp2
  go_ret
  exact ⟨STOP.out _ E.out, HB3.out⟩
end Go.Proofs.YtcoaajkhfgakgaaGreatDoor.Pr
end

section
namespace Go.Proofs.YtcoaajkhfgakgaaGreatDoor.Pr
open Go.RowKit Go.Proofs.YtcoaajkhfgakgaaGreatDoorW.PrintWords Go.Proofs.YtcoaajkhfgakgaaGreatDoorW.PrintLast Go.Proofs.YtcoaajkhfgakgaaGreatDoorW.PrintMore
attribute [local go_sem] max2_int min2_int max_two min_two max_three min_three max_four min_four   -- for this text's walks alone
set_option linter.unusedVariables false
set_option linter.unusedSimpArgs false
theorem bA {w : World} {g : Nat} {o : Obj} (h : w.heap[g]? = some o) (o' : Obj) : (w.alloc o').heap[g]? = some o := blk_alloc h o'
theorem bD {w : World} {g : Nat} {o : Obj} (h : w.heap[g]? = some o) : w.drew.heap[g]? = some o := h
theorem bN {w : World} {g : Nat} {o : Obj} (h : w.heap[g]? = some o) (n : Nat) : (w.drewN n).heap[g]? = some o := h
mutual
def plan_Table_Next.j0 : Nat → Bool → Int → List (S70) → List (S52) → Option (Int × (List (S70)) × (List (S40)) × Int)
  | 0, _, _, _, _ => none
  | k + 1, x24, x120000, x120001, x121000 => if x24 = true then (some (0, ([] : List (S70)), ([] : List (S40)), 10)) else (plan_Table_Next.l0 k x121000 (x121000.length : Int) 0 x120000 x120001 x121000 (wrap64 (x120000 + 1)) ([] : List (S70)))
def plan_Table_Next.l0 : Nat → List (S52) → Int → Int → Int → List (S70) → List (S52) → Int → List (S70) → Option (Int × (List (S70)) × (List (S40)) × Int)
  | 0, _, _, _, _, _, _, _, _ => none
  | k + 1, x31, x32, x33, x120000, x120001, x121000, x125000, x125001 => if x33 < x32 then (if 0 ≤ x33 then (if x33 < (x31.length : Int) then ((plan_Table_Find.f k x120000 x120001 ((rd_T52 x31 x33).f0)).bind fun bt133 => (if bt133.2.2.2.2.2.2.2.2 = true then ((plan_same.f bt133.1 bt133.2.1 bt133.2.2.1 bt133.2.2.2.1 bt133.2.2.2.2.1 bt133.2.2.2.2.2.1 bt133.2.2.2.2.2.2.1 ((rd_T52 x31 x33).f0) ((rd_T52 x31 x33).f1) ((rd_T52 x31 x33).f2) ((rd_T52 x31 x33).f3) ((rd_T52 x31 x33).f4) ((rd_T52 x31 x33).f5) ((rd_T52 x31 x33).f6)).bind fun t145 => (if t145 = true then (none) else ((slices_Clone_string_string.f ((rd_T52 x31 x33).f6)).bind fun t152 => (if x125001.length < 1759218604441 then (plan_Table_Next.l0 k x31 x32 (wrap64 (x33 + 1)) x120000 x120001 x121000 x125000 (x125001 ++ [(⟨(⟨(rd_T52 x31 x33).f0, (rd_T52 x31 x33).f1, (rd_T52 x31 x33).f2, (rd_T52 x31 x33).f3, (rd_T52 x31 x33).f4, (rd_T52 x31 x33).f5, t152⟩ : S52), x125000⟩ : S70)])) else (none))))) else ((slices_Clone_string_string.f ((rd_T52 x31 x33).f6)).bind fun t158 => (if x125001.length < 1759218604441 then (plan_Table_Next.l0 k x31 x32 (wrap64 (x33 + 1)) x120000 x120001 x121000 x125000 (x125001 ++ [(⟨(⟨(rd_T52 x31 x33).f0, (rd_T52 x31 x33).f1, (rd_T52 x31 x33).f2, (rd_T52 x31 x33).f3, (rd_T52 x31 x33).f4, (rd_T52 x31 x33).f5, t158⟩ : S52), x125000⟩ : S70)])) else (none))))) else (none)) else (none)) else ((plan_Table_Config.f k x120000 x120001).bind fun t125 => ((plan_diff.f t125 x121000).bind fun t128 => (some (x125000, x125001, t128, 0))))
end
def plan_Table_Next.f (k : Nat) (a0_0 : Int) (l0_1 : List (S70)) (l1_0 : List (S52)) : Option (Int × (List (S70)) × (List (S40)) × Int) := (plan_Table_Right.f a0_0 l0_1).bind fun t122 => (if t122 = true then ((conf_Config_Right.f l1_0).bind fun t123 => (if t123 = true then (plan_Table_Next.j0 k (a0_0 == 253402300799) a0_0 l0_1 l1_0) else (plan_Table_Next.j0 k true a0_0 l0_1 l1_0))) else (plan_Table_Next.j0 k true a0_0 l0_1 l1_0))
theorem plan_Table_Next.mono_l : ∀ k, (∀ y0 y1 y2 y3, LeO (plan_Table_Next.j0 k y0 y1 y2 y3) (plan_Table_Next.j0 (k + 1) y0 y1 y2 y3)) ∧ (∀ y0 y1 y2 y3 y4 y5 y6 y7, LeO (plan_Table_Next.l0 k y0 y1 y2 y3 y4 y5 y6 y7) (plan_Table_Next.l0 (k + 1) y0 y1 y2 y3 y4 y5 y6 y7))
  | 0 => ⟨fun _ _ _ _ r h => by simp [plan_Table_Next.j0] at h, fun _ _ _ _ _ _ _ _ r h => by simp [plan_Table_Next.l0] at h⟩
  | k + 1 => by
    obtain ⟨ih0, ih1⟩ := plan_Table_Next.mono_l k
    refine ⟨?_, ?_⟩
    · intro y0 y1 y2 y3
      unfold plan_Table_Next.j0
      repeat' first
      | (with_reducible exact ih0 _ _ _ _)
      | (with_reducible exact ih1 _ _ _ _ _ _ _ _)
      | (with_reducible exact plan_Table_Config.mono _ _ _)
      | (with_reducible exact plan_Table_Find.mono _ _ _ _)
      | (with_reducible exact LeO.refl _)
      | (with_reducible exact LeO.none _)
      | (with_reducible refine LeO.ite ?_ ?_)
      | (with_reducible refine LeO.bind ?_ (fun _ => ?_))
      | exact ih0 _ _ _ _
      | exact ih1 _ _ _ _ _ _ _ _
      | exact plan_Table_Config.mono _ _ _
      | exact plan_Table_Find.mono _ _ _ _
      | exact LeO.none _
      | refine LeO.ite ?_ ?_
      | refine LeO.bind ?_ (fun _ => ?_)
    · intro y0 y1 y2 y3 y4 y5 y6 y7
      unfold plan_Table_Next.l0
      repeat' first
      | (with_reducible exact ih0 _ _ _ _)
      | (with_reducible exact ih1 _ _ _ _ _ _ _ _)
      | (with_reducible exact plan_Table_Config.mono _ _ _)
      | (with_reducible exact plan_Table_Find.mono _ _ _ _)
      | (with_reducible exact LeO.refl _)
      | (with_reducible exact LeO.none _)
      | (with_reducible refine LeO.ite ?_ ?_)
      | (with_reducible refine LeO.bind ?_ (fun _ => ?_))
      | exact ih0 _ _ _ _
      | exact ih1 _ _ _ _ _ _ _ _
      | exact plan_Table_Config.mono _ _ _
      | exact plan_Table_Find.mono _ _ _ _
      | exact LeO.none _
      | refine LeO.ite ?_ ?_
      | refine LeO.bind ?_ (fun _ => ?_)
theorem plan_Table_Next.mono : ∀ a0 a1 a2 k, LeO (plan_Table_Next.f k a0 a1 a2) (plan_Table_Next.f (k + 1) a0 a1 a2) := by
  intro a0 a1 a2 k
  obtain ⟨ih0, ih1⟩ := plan_Table_Next.mono_l k
  unfold plan_Table_Next.f
  repeat' first
      | (with_reducible exact ih0 _ _ _ _)
      | (with_reducible exact ih1 _ _ _ _ _ _ _ _)
      | (with_reducible exact plan_Table_Config.mono _ _ _)
      | (with_reducible exact plan_Table_Find.mono _ _ _ _)
      | (with_reducible exact LeO.refl _)
      | (with_reducible exact LeO.none _)
      | (with_reducible refine LeO.ite ?_ ?_)
      | (with_reducible refine LeO.bind ?_ (fun _ => ?_))
      | exact ih0 _ _ _ _
      | exact ih1 _ _ _ _ _ _ _ _
      | exact plan_Table_Config.mono _ _ _
      | exact plan_Table_Find.mono _ _ _ _
      | exact LeO.none _
      | refine LeO.ite ?_ ?_
      | refine LeO.bind ?_ (fun _ => ?_)
def plan_Table_Next.T14 : Bool × List (List Nat × List Nat) := (true, [([], []), ([], []), ([1], [1]), ([], []), ([2, 3, 2], [2, 3]), ([0, 4, 0], [0]), ([4, 5, 0, 1, 2, 3, 4, 5], [4]), ([6, 0, 1, 2, 3, 4, 5, 6], [])])
def plan_Table_Next.B14 : List Nat := [0, 0, 2, 0, 14, 31, 63, 127]
theorem plan_Table_Next.tab14 : rtab .any (opsOf Tryz.f28 14) = plan_Table_Next.T14 := by kernel_rfl
theorem plan_Table_Next.bits14 : waitsOk plan_Table_Next.T14.2 plan_Table_Next.B14 = true := by kernel_rfl
end Go.Proofs.YtcoaajkhfgakgaaGreatDoor.Pr
end
