/- Part 5 of the proof of Finds: what the program's functions compute, and that it is so. Conditions: as each theorem states. (Packed out of our texts: XWordsLoop, XReadSpec, XRead, XAnchor.) -/
import Derived.Test.YtcoaajkhfgakgaaDoorCFinds4
import Derived.IntWalk
section
namespace Go.Proofs.YtcoaajkhfgakgaaDoor.Pr
open Go.RowKit Go.Proofs.YtcoaajkhfgakgaaDoorW.PrintWords Go.Proofs.YtcoaajkhfgakgaaDoorW.PrintLast Go.Proofs.YtcoaajkhfgakgaaDoorW.PrintMore
set_option linter.unusedVariables false
set_option linter.unusedSimpArgs false
def skipC (s : ByteArray) : Nat → Nat → Nat
  | 0, k => k
  | n + 1, k => if k + 1 < s.size ∧ bt s (k + 1 : Nat) ≠ 10 then skipC s n (k + 1) else k
def stepW (s : ByteArray) (k : Nat) (line frm : Int) (ws : List Wd) : Nat × Int × Int × List Wd :=
  if bt s k = 47 ∧ k + 1 < s.size ∧ bt s (k + 1 : Nat) = 47 then (skipC s s.size k + 1, line, -1, endW s k line frm ws)
  else if bt s k = 32 ∨ bt s k = 9 ∨ bt s k = 10 then (k + 1, (if bt s k = 10 then line + 1 else line), -1, endW s k line frm ws)
  else if bt s k = 123 ∨ bt s k = 125 ∨ bt s k = 59 then (k + 1, line, -1, endW s k line frm ws ++ [⟨s.extract k (k + 1), line⟩])
  else (k + 1, line, (if frm < 0 then (k : Int) else frm), ws)
def tkF (s : ByteArray) : Nat → Nat → Int → Int → List Wd → List Wd
  | 0, _, _, _, ws => ws
  | n + 1, k, line, frm, ws => if k < s.size then tkF s n (stepW s k line frm ws).1 (stepW s k line frm ws).2.1 (stepW s k line frm ws).2.2.1 (stepW s k line frm ws).2.2.2 else endW s s.size line frm ws ++ [⟨⟨#[]⟩, line⟩]
def wordsS (s : ByteArray) : List Wd := tkF s (s.size + 1) 0 1 (-1) []
theorem skipC_le (s : ByteArray) : ∀ n k, k < s.size → k ≤ skipC s n k ∧ skipC s n k < s.size
  | 0, k, h => ⟨Nat.le_refl _, h⟩
  | n + 1, k, h => by
    unfold skipC
    split
    · rename_i hc
      have := skipC_le s n (k + 1) hc.1
      omega
    · exact ⟨Nat.le_refl _, h⟩
theorem endW_len (s : ByteArray) (i : Nat) (line frm : Int) (ws : List Wd) : (endW s i line frm ws).length ≤ ws.length + 1 := by
  unfold endW
  split <;> simp
set_option maxRecDepth 100000 in
set_option maxHeartbeats 3200000 in
theorem conf_words_calls (a0 : ByteArray) (w : World) (hs : a0.size ≤ 274877906944) :
    Calls Tryd.prog 22 #[.string a0] w fun e w' => ∃ v, e = .returned v ∧ w'.ownsRow w.heap.size 79 2 v (wordsS a0).length (cellsW (wordsS a0)) ∧ Below w.heap.size w w' ∧ (wordsS a0).length ≤ 2 * a0.size + 2 := by
  obtain ⟨i0, hi0, hz0, hz1, hz2⟩ := info_parts infoW
  have hst0 : Aside0 (WSt w ((((w.alloc (.cells #[.string a0] 9)).alloc (.cells #[.slice none 0 0] 61)).alloc (.cells #[.int .i64 1] 3)).alloc (.cells #[.int .i64 (-1)] 3)) w.heap.size (w.heap.size + 1) (w.heap.size + 1 + 1) (w.heap.size + 1 + 1 + 1) a0 1 (-1) [] (.slice none 0 0)) := ⟨by
    refine ⟨?_, ?_, ?_, ?_, own_nil _ _ _ _, ?_, by omega, by omega⟩
    · exact (blk_alloc (blk_alloc (blk_alloc (heap_alloc_new w _) _) _) _)
    · exact (blk_alloc (blk_alloc (by simpa using heap_alloc_new (w.alloc (.cells #[.string a0] 9)) _) _) _)
    · exact (blk_alloc (by simpa using heap_alloc_new ((w.alloc (.cells #[.string a0] 9)).alloc (.cells #[.slice none 0 0] 61)) _) _)
    · simpa using heap_alloc_new (((w.alloc (.cells #[.string a0] 9)).alloc (.cells #[.slice none 0 0] 61)).alloc (.cells #[.int .i64 1] 3)) _
    · exact below_alloc (below_alloc (below_alloc (below_alloc (Below.refl _ _) _) _) _) _⟩
  go_enter Tryd.func22, Tryd.ntmps22
  go_wp2
  generalize (((w.alloc (.cells #[.string a0] 9)).alloc (.cells #[.slice none 0 0] 61)).alloc (.cells #[.int .i64 1] 3)).alloc (.cells #[.int .i64 (-1)] 3) = w1 at hst0 ⊢
  obtain ⟨b0, eb0⟩ : ∃ b, b = w.heap.size := ⟨_, rfl⟩
  obtain ⟨b1, eb1⟩ : ∃ b, b = w.heap.size + 1 := ⟨_, rfl⟩
  obtain ⟨b2, eb2⟩ : ∃ b, b = w.heap.size + 1 + 1 := ⟨_, rfl⟩
  obtain ⟨b3, eb3⟩ : ∃ b, b = w.heap.size + 1 + 1 + 1 := ⟨_, rfl⟩
  rw [← eb3, ← eb2, ← eb1, ← eb0] at hst0 ⊢
  clear eb0 eb1 eb2 eb3
  go_loopw [7] (fun i wr => ∃ (k n : Nat) (line frm : Int) (ws : List Wd) (v : Value), k ≤ a0.size ∧ i = .int .i64 k ∧ Aside0 (WSt w wr b0 b1 b2 b3 a0 line frm ws v) ∧ Aside0 (tkF a0 n k line frm ws = wordsS a0) ∧ a0.size - k < n ∧ frm ≤ k ∧ 0 < line ∧ line ≤ k + 1 ∧ ws.length ≤ 2 * k)
    (fun i _ => a0.size + 1 - (intOf i).toNat)
  case atStart => exact ⟨0, a0.size + 1, 1, -1, [], .slice none 0 0, Nat.zero_le _, rfl, hst0, ⟨rfl⟩, by omega, by omega, by omega, by omega, by simp⟩
  case round =>
    obtain ⟨k, n, line, frm, ws, v, hk, rfl, hst, htk, hn, hfr, hl0, hl1, hlen⟩ := hrel
    clear hst0
    obtain ⟨m, rfl⟩ : ∃ m, n = m + 1 := ⟨n - 1, by omega⟩
    have c0 : wr.cell? ⟨b0, 0, none⟩ = some (.string a0) := (blk_cell hst.out.text 0).trans rfl
    by_cases hlt : k < a0.size
    · have HT : Aside0 (tkF a0 m (stepW a0 k line frm ws).1 (stepW a0 k line frm ws).2.1 (stepW a0 k line frm ws).2.2.1 (stepW a0 k line frm ws).2.2.2 = wordsS a0) := ⟨by
        have := htk.out
        rw [tkF, if_pos hlt] at this
        exact this⟩
      clear htk
      have hc : ∀ h : k < a0.size, ((a0[k]'h).toNat : Int) = bt a0 k := fun h => by simp [bt, h]
      have hr := bt_range a0 k
      have hend := Aside0.mk (fun W (ww : Value) (h' : WSt w W b0 b1 b2 b3 a0 line frm ws ww) => words_end_any w W b0 b1 b2 b3 a0 line frm k ws ww h' hfr hk (by omega) (by omega))
      have hendl := endW_len a0 k line frm ws
      by_cases hA : bt a0 k = 47 ∧ k + 1 < a0.size ∧ bt a0 (k + 1 : Nat) = 47
      · rw [stepW, if_pos hA] at HT
        obtain ⟨hA1, hA2, hA3⟩ := hA
        generalize endW a0 k line frm ws = ws2 at *
        have q47 : (bt a0 k == 47) = true := beq_iff_eq.2 hA1
        have q10 : (bt a0 k == 10) = false := beq_eq_false_iff_ne.2 (by omega)
        have q1 : (bt a0 (k + 1 : Nat) == 47) = true := beq_iff_eq.2 hA3
        have hc1 : ∀ h : k + 1 < a0.size, ((a0[k + 1]'h).toNat : Int) = bt a0 (k + 1 : Nat) := fun h => by simp [bt, h]
        clear hA1 hA3
        generalize bt a0 (k + 1 : Nat) = c1 at *
        generalize bt a0 k = c at *
        go_wp2_with fail
        refine (hend.out _ _ hst.out).mono ?_
        rintro e w' ⟨rfl, v', hst'⟩
        have hset := Aside0.mk hst'
        have d0 : w'.cell? ⟨b0, 0, none⟩ = some (.string a0) := (blk_cell hst'.text 0).trans rfl
        clear hst' hst hend c0 hc1 q1
        go_wp2_with fail
        go_loop [7] (fun i => ∃ (j n' : Nat), k ≤ j ∧ j < a0.size ∧ i = .int .i64 j ∧ Aside0 (skipC a0 n' j = skipC a0 a0.size k) ∧ a0.size ≤ n' + j) (fun i => a0.size - (intOf i).toNat)
        case atStart => exact ⟨k, a0.size, Nat.le_refl _, hlt, rfl, ⟨rfl⟩, by omega⟩
        case round =>
          obtain ⟨j, n', hj1, hj2, rfl, hsk, hn'⟩ := hrel
          by_cases hj : j + 1 < a0.size
          · have hd1 : ∀ h : j + 1 < a0.size, ((a0[j + 1]'h).toNat : Int) = bt a0 (j + 1 : Nat) := fun h => by simp [bt, h]
            obtain ⟨n2, rfl⟩ : ∃ n2, n' = n2 + 1 := ⟨n' - 1, by omega⟩
            by_cases h10 : bt a0 (j + 1 : Nat) = 10
            · have p10 : (bt a0 (j + 1 : Nat) != 10) = false := by rw [h10]; rfl
              have hs1 : skipC a0 a0.size k = j := by rw [← hsk.out, skipC, if_neg (by rintro ⟨_, h⟩; exact h h10)]
              rw [hs1] at HT
              clear h10 hs1 hsk
              generalize bt a0 (j + 1 : Nat) = c2 at *
              go_wp2
              go_roundw
              case rel => exact ⟨j + 1, m, line, -1, ws2, v', by omega, by go_num, hset, HT, by omega, by omega, by omega, by omega, by omega⟩
              case measure => simp [intOf]; omega
            · have p10 : (bt a0 (j + 1 : Nat) != 10) = true := by simpa using h10
              have hs1 : Aside0 (skipC a0 n2 (j + 1) = skipC a0 a0.size k) := ⟨by
                have := hsk.out
                rw [skipC, if_pos ⟨hj, h10⟩] at this
                exact this⟩
              clear h10 hsk
              generalize bt a0 (j + 1 : Nat) = c2 at *
              go_wp2
              go_round
              case rel => exact ⟨j + 1, n2, by omega, by omega, by go_num, hs1, by omega⟩
              case measure => simp [intOf]; omega
          · have hs1 : skipC a0 a0.size k = j := by
              rw [← hsk.out]
              cases n' with
              | zero => rfl
              | succ n2 => rw [skipC, if_neg (by rintro ⟨h, _⟩; exact hj h)]
            rw [hs1] at HT
            clear hs1 hsk
            go_wp2
            go_roundw
            case rel => exact ⟨j + 1, m, line, -1, ws2, v', by omega, by go_num, hset, HT, by omega, by omega, by omega, by omega, by omega⟩
            case measure => simp [intOf]; omega
      · rw [stepW, if_neg hA] at HT
        by_cases hB : bt a0 k = 32 ∨ bt a0 k = 9 ∨ bt a0 k = 10
        · rw [if_pos hB] at HT
          generalize endW a0 k line frm ws = ws2 at *
          clear hA
          generalize bt a0 k = c at *
          have q47 : (c == 47) = false := beq_eq_false_iff_ne.2 (by rcases hB with h | h | h <;> omega)
          by_cases h10 : c = 10
          · rw [if_pos h10] at HT
            subst h10
            clear hB
            go_wp2_with (go_at_call 29; refine (hend.out _ _ hst.out).mono ?_; rintro e w' ⟨rfl, v', hst'⟩; have d2 : w'.cell? ⟨b2, 0, none⟩ = some (.int .i64 line) := (blk_cell hst'.line 0).trans rfl; have e2 : w'.frozen? ⟨b2, 0, none⟩ = false := blk_frozen hst'.line 0; have hset := Aside0.mk (hst'.setLine (line + 1)); clear hst')
            go_roundw
            case rel => exact ⟨k + 1, m, line + 1, -1, ws2, v', by omega, by go_num, hset, HT, by omega, by omega, by omega, by omega, by omega⟩
            case measure => simp [intOf]; omega
          · rw [if_neg h10] at HT
            have q10 : (c == 10) = false := beq_eq_false_iff_ne.2 h10
            rcases hB with h | h | h
            · have q32 : (c == 32) = true := beq_iff_eq.2 h
              clear h h10
              go_wp2_with (go_at_call 29; refine (hend.out _ _ hst.out).mono ?_; rintro e w' ⟨rfl, v', hst'⟩; have hset := Aside0.mk hst'; clear hst')
              go_roundw
              case rel => exact ⟨k + 1, m, line, -1, ws2, v', by omega, by go_num, hset, HT, by omega, by omega, by omega, by omega, by omega⟩
              case measure => simp [intOf]; omega
            · have q32 : (c == 32) = false := beq_eq_false_iff_ne.2 (by omega)
              have q9 : (c == 9) = true := beq_iff_eq.2 h
              clear h h10
              go_wp2_with (go_at_call 29; refine (hend.out _ _ hst.out).mono ?_; rintro e w' ⟨rfl, v', hst'⟩; have hset := Aside0.mk hst'; clear hst')
              go_roundw
              case rel => exact ⟨k + 1, m, line, -1, ws2, v', by omega, by go_num, hset, HT, by omega, by omega, by omega, by omega, by omega⟩
              case measure => simp [intOf]; omega
            · exact absurd h h10
        · rw [if_neg hB] at HT
          by_cases hC : bt a0 k = 123 ∨ bt a0 k = 125 ∨ bt a0 k = 59
          · rw [if_pos hC] at HT
            generalize endW a0 k line frm ws = ws2 at *
            clear hA
            generalize bt a0 k = c at *
            have q47 : (c == 47) = false := beq_eq_false_iff_ne.2 (by omega)
            have hc32 : (c == 32) = false := beq_eq_false_iff_ne.2 (fun e => hB (.inl e))
            have hc9 : (c == 9) = false := beq_eq_false_iff_ne.2 (fun e => hB (.inr (.inl e)))
            have hc10 : (c == 10) = false := beq_eq_false_iff_ne.2 (fun e => hB (.inr (.inr e)))
            clear hB
            have hq : ((c == 123) = true) ∨ ((c == 123) = false ∧ (c == 125) = true) ∨ ((c == 123) = false ∧ (c == 125) = false ∧ (c == 59) = true) := by
              rcases hC with h | h | h
              · exact .inl (beq_iff_eq.2 h)
              · exact .inr (.inl ⟨beq_eq_false_iff_ne.2 (by omega), beq_iff_eq.2 h⟩)
              · exact .inr (.inr ⟨beq_eq_false_iff_ne.2 (by omega), beq_eq_false_iff_ne.2 (by omega), beq_iff_eq.2 h⟩)
            clear hC
            rcases hq with q123 | ⟨q123, q125⟩ | ⟨q123, q125, q59⟩
            all_goals
              go_wp2_with fail
              refine (hend.out _ _ hst.out).mono ?_
              rintro e w' ⟨rfl, v', hst'⟩
              have H := Aside0.mk hst'
              have hown := Aside0.mk hst'.row
              have d0 : w'.cell? ⟨b0, 0, none⟩ = some (.string a0) := (blk_cell hst'.text 0).trans rfl
              have d1 : w'.cell? ⟨b1, 0, none⟩ = some v' := (blk_cell hst'.out 0).trans rfl
              have d2 : w'.cell? ⟨b2, 0, none⟩ = some (.int .i64 line) := (blk_cell hst'.line 0).trans rfl
              have lt0 : b0 < w'.heap.size := blk_lt hst'.text
              have lt1 : b1 < w'.heap.size := blk_lt hst'.out
              have lt2 : b2 < w'.heap.size := blk_lt hst'.line
              have lw : w.heap.size ≤ w'.heap.size := hst'.bel.size
              have e1 : w'.frozen? ⟨b1, 0, none⟩ = false := blk_frozen hst'.out 0
              have far1 := hst'.far_of hst'.out (by decide)
              have f0 : ∀ o, (w'.alloc o).cell? ⟨b0, 0, none⟩ = some (.string a0) := fun o => cell_new_ lt0 d0
              have f1 : ∀ o, (w'.alloc o).cell? ⟨b1, 0, none⟩ = some v' := fun o => cell_new_ lt1 d1
              have f2 : ∀ o, (w'.alloc o).cell? ⟨b2, 0, none⟩ = some (.int .i64 line) := fun o => cell_new_ lt2 d2
              clear hst' hst hend
              have g0 : (0 : Int) ≤ (k : Int) := Int.natCast_nonneg _
              have g1 : (k : Int) ≤ (k : Int) + 1 := by omega
              have g2 : (k : Int) + 1 ≤ (a0.size : Int) := by omega
              have gw : IntKind.i64.wrap ((k : Int) + 1) = (k : Int) + 1 := by rw [IntKind.wrap_i64]; omega
              have gt : ((k : Int) + 1).toNat = k + 1 := by omega
              go_wp2_with fail
              go_region_law ((refine step_append_lies _ (by rfl) _ _ _ (by rfl) w.heap.size 79 i0 _ 2 24 Tryd.underlying61 hi0 hz0 hz1 hz2 rfl (by omega) v' ws2.length (cellsW ws2) (by rfl) ((hown.out.alloc _).drew) ⟨w'.heap.size, 0, none⟩ 1 1 [.string (a0.extract k (k + 1)), .int .i64 line] (by rfl) (by rfl) (World.news_of_block (cs := #[.string (a0.extract k (k + 1)), .int .i64 line]) (t := 79) (fr := (0, 0)) (heap_alloc_new w' _)) (by simp [Value.oneCell']) (by omega) (by unfold maxLen; omega) (by omega) (by simp; omega) (w'.heap.size + 1) (by simp) ?_; intro gg cap w2 hown1 hgrow hat hlt; have c1b : w2.cell? ⟨b1, 0, none⟩ = some v' := (hgrow.cell_far _ (by simp; omega) (Ne.symm far1)).trans (cell_new_ lt1 d1); have z1b : w2.frozen? ⟨b1, 0, none⟩ = false := (hgrow.frozen_far _ (by simp; omega) (Ne.symm far1)).trans (frz_new lt1 e1)))
              all_goals
                have hty : (Value.slice (some ⟨gg, 0, none⟩) (ws2.length + 1) cap).ownBlock ≠ some b1 := by
                  rcases hat with hat | hat
                  · exact fun e => far1 (hat.trans (show some gg = _ from e))
                  · simp only [Value.ownBlock]; intro e; injection e with e; omega
                have hst2 := Aside0.mk (H.out.grow ⟨a0.extract k (k + 1), line⟩ hown1 hgrow hty)
                clear hown1 hgrow hat hlt c1b z1b hty gw gt
                generalize w2.setCell ⟨b1, 0, none⟩ (Value.slice (some ⟨gg, 0, none⟩) (ws2.length + 1) cap) = w3 at hst2 ⊢
                generalize Value.slice (some ⟨gg, 0, none⟩) (ws2.length + 1) cap = v3 at hst2
                go_wp2
                go_roundw
                case rel => exact ⟨k + 1, m, line, -1, ws2 ++ [⟨a0.extract k (k + 1), line⟩], v3, by omega, by go_num, hst2, HT, by omega, by omega, by omega, by omega, by simp; omega⟩
                case measure => simp [intOf]; omega
          · rw [if_neg hC] at HT
            clear hend hendl
            have c3 : wr.cell? ⟨b3, 0, none⟩ = some (.int .i64 frm) := (blk_cell hst.out.frm 0).trans rfl
            have z3 : wr.frozen? ⟨b3, 0, none⟩ = false := blk_frozen hst.out.frm 0
            have hset := Aside0.mk (hst.out.setFrom (k : Int))
            have hc1 : ∀ h : k + 1 < a0.size, ((a0[k + 1]'h).toNat : Int) = bt a0 (k + 1 : Nat) := fun h => by simp [bt, h]
            generalize bt a0 (k + 1 : Nat) = c1 at *
            generalize bt a0 k = c at *
            have hc32 : (c == 32) = false := beq_eq_false_iff_ne.2 (fun e => hB (.inl e))
            have hc9 : (c == 9) = false := beq_eq_false_iff_ne.2 (fun e => hB (.inr (.inl e)))
            have hc10 : (c == 10) = false := beq_eq_false_iff_ne.2 (fun e => hB (.inr (.inr e)))
            have hc123 : (c == 123) = false := beq_eq_false_iff_ne.2 (fun e => hC (.inl e))
            have hc125 : (c == 125) = false := beq_eq_false_iff_ne.2 (fun e => hC (.inr (.inl e)))
            have hc59 : (c == 59) = false := beq_eq_false_iff_ne.2 (fun e => hC (.inr (.inr e)))
            clear hB hC
            by_cases hf : frm < 0
            · rw [if_pos hf] at HT
              by_cases h47 : c = 47
              · have q47 : (c == 47) = true := beq_iff_eq.2 h47
                by_cases hk1 : k + 1 < a0.size
                · have hn47 : (c1 == 47) = false := beq_eq_false_iff_ne.2 (fun e => hA ⟨h47, hk1, e⟩)
                  clear hA h47
                  go_wp2
                  go_roundw
                  case rel => exact ⟨k + 1, m, line, k, ws, v, by omega, by go_num, hset, HT, by omega, by omega, by omega, by omega, by omega⟩
                  case measure => simp [intOf]; omega
                · clear hA h47
                  go_wp2
                  go_roundw
                  case rel => exact ⟨k + 1, m, line, k, ws, v, by omega, by go_num, hset, HT, by omega, by omega, by omega, by omega, by omega⟩
                  case measure => simp [intOf]; omega
              · have q47 : (c == 47) = false := beq_eq_false_iff_ne.2 h47
                clear hA h47
                go_wp2
                go_roundw
                case rel => exact ⟨k + 1, m, line, k, ws, v, by omega, by go_num, hset, HT, by omega, by omega, by omega, by omega, by omega⟩
                case measure => simp [intOf]; omega
            · rw [if_neg hf] at HT
              clear hset
              by_cases h47 : c = 47
              · have q47 : (c == 47) = true := beq_iff_eq.2 h47
                by_cases hk1 : k + 1 < a0.size
                · have hn47 : (c1 == 47) = false := beq_eq_false_iff_ne.2 (fun e => hA ⟨h47, hk1, e⟩)
                  clear hA h47
                  go_wp2
                  go_roundw
                  case rel => exact ⟨k + 1, m, line, frm, ws, v, by omega, by go_num, hst, HT, by omega, by omega, by omega, by omega, by omega⟩
                  case measure => simp [intOf]; omega
                · clear hA h47
                  go_wp2
                  go_roundw
                  case rel => exact ⟨k + 1, m, line, frm, ws, v, by omega, by go_num, hst, HT, by omega, by omega, by omega, by omega, by omega⟩
                  case measure => simp [intOf]; omega
              · have q47 : (c == 47) = false := beq_eq_false_iff_ne.2 h47
                clear hA h47
                go_wp2
                go_roundw
                case rel => exact ⟨k + 1, m, line, frm, ws, v, by omega, by go_num, hst, HT, by omega, by omega, by omega, by omega, by omega⟩
                case measure => simp [intOf]; omega
    · obtain rfl : k = a0.size := by omega
      have HT : Aside0 (endW a0 a0.size line frm ws ++ [⟨⟨#[]⟩, line⟩] = wordsS a0) := ⟨by
        have := htk.out
        rw [tkF, if_neg hlt] at this
        exact this⟩
      clear htk
      have hend := Aside0.mk (words_end_any w wr b0 b1 b2 b3 a0 line frm a0.size ws v hst.out hfr (Nat.le_refl _) (by omega) (by omega))
      have hendl := endW_len a0 a0.size line frm ws
      generalize endW a0 a0.size line frm ws = ws2 at *
      go_wp2_with fail
      refine hend.out.mono ?_
      rintro e w' ⟨rfl, v', hst'⟩
      have H := Aside0.mk hst'
      have hown := Aside0.mk hst'.row
      have d1 : w'.cell? ⟨b1, 0, none⟩ = some v' := (blk_cell hst'.out 0).trans rfl
      have d2 : w'.cell? ⟨b2, 0, none⟩ = some (.int .i64 line) := (blk_cell hst'.line 0).trans rfl
      have lw : w.heap.size ≤ w'.heap.size := hst'.bel.size
      clear hst' hst hend
      go_wp2_with (at_builtin; refine wpList_append_lies _ rfl _ _ _ rfl w.heap.size 79 i0 _ 2 24 Tryd.underlying61 hi0 hz0 hz1 hz2 rfl (by omega) v' ws2.length (cellsW ws2) (by rfl) (hown.out.alloc _) ⟨w'.heap.size, 0, none⟩ 1 1 [.string ⟨#[]⟩, .int .i64 line] (by rfl) (by rfl) (World.news_of_block (cs := #[.string ⟨#[]⟩, .int .i64 line]) (t := 79) (fr := (0, 0)) (heap_alloc_new w' _)) (by simp [Value.oneCell']) (by omega) (by unfold maxLen; omega) (by omega) (by simp; omega) (w'.heap.size + 1) (by simp) ?_; intro gg cap w2 hown1 hgrow hat hlt)
      go_ret
      refine ⟨_, rfl, ?_, ?_, ?_⟩
      · rw [← HT.out, List.length_append, List.length_singleton, cellsW_snoc]
        exact hown1
      · exact (below_alloc H.out.bel _).grown hgrow (by simp; omega) (fun k hk => own_base H.out.row k hk)
      · rw [← HT.out, List.length_append, List.length_singleton]; omega
end Go.Proofs.YtcoaajkhfgakgaaDoor.Pr
end

section
namespace Go.Proofs.YtcoaajkhfgakgaaDoor.Pr
open Go.RowKit Go.Proofs.YtcoaajkhfgakgaaDoorW.PrintWords Go.Proofs.YtcoaajkhfgakgaaDoorW.PrintLast Go.Proofs.YtcoaajkhfgakgaaDoorW.PrintMore
set_option linter.unusedVariables false
set_option linter.unusedSimpArgs false
theorem endW_small (s : ByteArray) (i : Nat) (line frm : Int) (ws : List Wd) (h : ∀ x ∈ ws, x.s.size ≤ s.size) : ∀ x ∈ endW s i line frm ws, x.s.size ≤ s.size := by
  intro x hx
  unfold endW at hx
  split at hx
  · rcases List.mem_append.1 hx with hx | hx
    · exact h x hx
    · rw [List.mem_singleton.1 hx]
      simp only [ByteArray.size_extract]
      omega
  · exact h x hx
theorem stepW_small (s : ByteArray) (k : Nat) (line frm : Int) (ws : List Wd) (h : ∀ x ∈ ws, x.s.size ≤ s.size) : ∀ x ∈ (stepW s k line frm ws).2.2.2, x.s.size ≤ s.size := by
  intro x hx
  unfold stepW at hx
  split at hx
  · exact endW_small s k line frm ws h x hx
  · split at hx
    · exact endW_small s k line frm ws h x hx
    · split at hx
      · rcases List.mem_append.1 hx with hx | hx
        · exact endW_small s k line frm ws h x hx
        · rw [List.mem_singleton.1 hx]
          simp only [ByteArray.size_extract]
          omega
      · exact h x hx
theorem tkF_small (s : ByteArray) : ∀ (n k : Nat) (line frm : Int) (ws : List Wd), (∀ x ∈ ws, x.s.size ≤ s.size) → ∀ x ∈ tkF s n k line frm ws, x.s.size ≤ s.size
  | 0, k, line, frm, ws, h => h
  | n + 1, k, line, frm, ws, h => by
    unfold tkF
    split
    · exact tkF_small s n _ _ _ _ (stepW_small s k line frm ws h)
    · intro x hx
      rcases List.mem_append.1 hx with hx | hx
      · exact endW_small s _ line frm ws h x hx
      · rw [List.mem_singleton.1 hx]
        exact Nat.zero_le _
theorem words_small (s : ByteArray) : ∀ x ∈ wordsS s, x.s.size ≤ s.size := tkF_small s _ _ _ _ _ (by simp)
theorem stepW_at (s : ByteArray) (k : Nat) (line frm : Int) (ws : List Wd) (h : k < s.size) : k + 1 ≤ (stepW s k line frm ws).1 ∧ (stepW s k line frm ws).1 ≤ s.size := by
  have := skipC_le s s.size k h
  unfold stepW
  split
  · simp only; omega
  · split
    · simp only; omega
    · split <;> (simp only; omega)
theorem tkF_pos (s : ByteArray) : ∀ (n k : Nat) (line frm : Int) (ws : List Wd), k ≤ s.size → s.size - k < n → 0 < (tkF s n k line frm ws).length
  | 0, k, line, frm, ws, _, h => by omega
  | n + 1, k, line, frm, ws, hk, h => by
    unfold tkF
    split
    · rename_i hlt
      have := stepW_at s k line frm ws hlt
      exact tkF_pos s n _ _ _ _ this.2 (by omega)
    · simp
theorem words_pos (s : ByteArray) : 0 < (wordsS s).length := tkF_pos s _ _ _ _ _ (Nat.zero_le _) (by omega)
theorem cellsW_cons (x : Wd) (ws : List Wd) : cellsW (x :: ws) = .string x.s :: .int .i64 x.line :: cellsW ws := by simp [cellsW]
theorem cellsW_at : ∀ (ws : List Wd) (j : Nat) (p : Wd), ws[j]? = some p → ((cellsW ws).drop (j * 2)).take 2 = [.string p.s, .int .i64 p.line]
  | [], j, p, h => by simp at h
  | x :: r, 0, p, h => by
    simp only [List.getElem?_cons_zero, Option.some.injEq] at h
    subst h
    rw [cellsW_cons]
    rfl
  | x :: r, j + 1, p, h => by
    rw [List.getElem?_cons_succ] at h
    rw [cellsW_cons, show (j + 1) * 2 = j * 2 + 1 + 1 from by omega, List.drop_succ_cons, List.drop_succ_cons]
    exact cellsW_at r j p h
theorem cellsW_len : ∀ ws : List Wd, (cellsW ws).length = ws.length * 2
  | [] => rfl
  | x :: r => by rw [cellsW_cons, List.length_cons, List.length_cons, cellsW_len r, List.length_cons]; omega
theorem reps_words (ws : List Wd) : Reps (fun (x : Wd) cs => cs = [.string x.s, .int .i64 x.line]) 2 ws (cellsW ws) := ⟨cellsW_len ws, cellsW_at ws⟩
def sitesF : Nat → St → List S29 → Option (St × List S29)
  | 0, _, _ => none
  | f + 1, st, sites => if st.code = 0 ∧ 1 < st.l.length then (siteF f st sites).bind fun r => sitesF f r.1 r.2 else some (st, sites)
def conf_Read.f (a0 : ByteArray) : Option ((List (S29)) × Int × Int) :=
  if 4096 < a0.size then some ([], 32, 1)
  else (sitesF (8 * a0.size + 64) ⟨wordsS a0, 0, 0⟩ []).map fun r => if r.1.code = 0 ∧ r.1.line = 0 then (r.2, 0, 0) else ([], r.1.code, r.1.line)
end Go.Proofs.YtcoaajkhfgakgaaDoor.Pr
end

section
namespace Go.Proofs.YtcoaajkhfgakgaaDoor.Pr
open Go.RowKit Go.Proofs.YtcoaajkhfgakgaaDoorW.PrintWords Go.Proofs.YtcoaajkhfgakgaaDoorW.PrintLast Go.Proofs.YtcoaajkhfgakgaaDoorW.PrintMore
set_option linter.unusedVariables false
set_option linter.unusedSimpArgs false
theorem siteF_len {k : Nat} {st st' : St} {sites sites' : List S29} (h : siteF k st sites = some (st', sites')) : sites'.length = sites.length + 1 := by
  unfold siteF at h
  cases hr : rulesF k (mustS (takeS (hostS (headS st sites) sites)) ⟨#[123]⟩) ⟨nextS (headS st sites), 1, 0, 3600, true, true, []⟩ [] with
  | none => rw [hr] at h; simp at h
  | some r =>
    rw [hr] at h
    simp only [Option.map_some, Option.some.injEq, Prod.mk.injEq] at h
    rw [← h.2]
    simp
set_option maxRecDepth 100000 in
set_option maxHeartbeats 8000000 in
theorem conf_Read.calls (a0 : ByteArray) (r1 : List (S29)) (r2 : Int) (r3 : Int) (w : World) (hG : GL w) (h : conf_Read.f a0 = some (r1, r2, r3)) :
    Calls Tryd.prog 16 #[.string a0] w fun e w' => ∃ v0_ : Value, e = .returned (.tuple #[.agg #[v0_], .agg #[.int .i64 r2, .int .i64 r3]]) ∧ Kd.V k29 29 w' w.heap.size (fun k_ => (w.heap.size ≤ k_)) v0_ r1 ∧ Below w.heap.size w w' := by
  have hu := Tryd.underlying64
  have hu2 := Tryd.underlying48
  have hu4 := Tryd.underlying24
  have HG := Aside0.mk hG
  clear hG
  by_cases t0 : 4096 < a0.size
  · unfold conf_Read.f at h
    rw [if_pos t0] at h
    simp only [Option.some.injEq, Prod.mk.injEq] at h
    obtain ⟨rfl, rfl, rfl⟩ := h
    have t0' : (a0.size : Int) > 4096 := by omega
    clear t0
    go_enter Tryd.func16, Tryd.ntmps16
    go_wp2
    have hb2 : Below w.heap.size w ((w.alloc (.cells #[.slice none 0 0] 24)).alloc (.cells #[.int .i64 32, .int .i64 1] 48)) := below_alloc (below_alloc (Below.refl _ _) _) _
    have h1 : ((w.alloc (.cells #[.slice none 0 0] 24)).alloc (.cells #[.int .i64 32, .int .i64 1] 48)).heap[w.heap.size]? = some (.cells #[.slice none 0 0] 24 (0, 0)) := ((below_alloc (Below.refl (w.alloc (.cells #[.slice none 0 0] 24)).heap.size _) (.cells #[.int .i64 32, .int .i64 1] 48)).block w.heap.size (by simp)).trans (heap_alloc_new w _)
    have h2 : ((w.alloc (.cells #[.slice none 0 0] 24)).alloc (.cells #[.int .i64 32, .int .i64 1] 48)).heap[w.heap.size + 1]? = some (.cells #[.int .i64 32, .int .i64 1] 48 (0, 0)) := by
      have := heap_alloc_new (w.alloc (.cells #[.slice none 0 0] 24)) (.cells #[.int .i64 32, .int .i64 1] 48)
      simpa using this
    refine bodyPost_ret (results_cc rfl _ _ w.heap.size (w.heap.size + 1) 24 48 #[.slice none 0 0] #[.int .i64 32, .int .i64 1] (0, 0) (0, 0) _ _ rfl h1 Tryd.underlying24 rfl (by kernel_rfl) rfl h2 Tryd.underlying48 rfl (by kernel_rfl)) rfl ?_
    exact ⟨_, rfl, Kd.R_V (Kd.R_nil _ _ _ w.heap.size _), hb2⟩
  · unfold conf_Read.f at h
    rw [if_neg t0] at h
    have t0' : ¬ (a0.size : Int) > 4096 := by omega
    cases hs : sitesF (8 * a0.size + 64) ⟨wordsS a0, 0, 0⟩ [] with
    | none => rw [hs] at h; simp at h
    | some r =>
    rw [hs] at h
    obtain ⟨stf, sf⟩ := r
    simp only [Option.map_some, Option.some.injEq] at h
    have HW := Aside0.mk (fun W => conf_words_calls a0 W (by omega))
    have HSM := Aside0.mk (words_small a0)
    have HPO := Aside0.mk (words_pos a0)
    have HRE := Aside0.mk h
    have HSF := Aside0.mk hs
    have HT0 := Aside0.mk t0
    clear h hs t0
    go_enter Tryd.func16, Tryd.ntmps16
    go_wp2_with fail
    refine (HW.out _).mono ?_
    rintro e w0 ⟨vw, rfl, hown, hbw, hlw⟩
    obtain ⟨AW, cW, hvw, hrdW⟩ := own_reads_row (R := fun (x : Wd) cs => cs = [.string x.s, .int .i64 x.line]) hown (reps_words (wordsS a0)) rfl
    have hcW : (wordsS a0).length ≤ cW := by
      rcases hown.2 with ⟨h1, h2⟩ | ⟨g, cap, cur, h1, h2, h3, h4, h5⟩
      · omega
      · rw [h1] at hvw
        injection hvw with _ _ hc
        omega
    subst hvw
    have hb2 : Below w.heap.size w ((w.alloc (.cells #[.slice none 0 0] 24)).alloc (.cells #[.int .i64 0, .int .i64 0] 48)) := below_alloc (below_alloc (Below.refl _ _) _) _
    have hsz2 : ((w.alloc (.cells #[.slice none 0 0] 24)).alloc (.cells #[.int .i64 0, .int .i64 0] 48)).heap.size = w.heap.size + 2 := by simp
    have h1 : w0.heap[w.heap.size]? = some (.cells #[.slice none 0 0] 24 (0, 0)) := (hbw.block _ (by simp; omega)).trans (((below_alloc (Below.refl (w.alloc (.cells #[.slice none 0 0] 24)).heap.size _) (.cells #[.int .i64 0, .int .i64 0] 48)).block w.heap.size (by simp)).trans (heap_alloc_new w _))
    have h2 : w0.heap[w.heap.size + 1]? = some (.cells #[.int .i64 0, .int .i64 0] 48 (0, 0)) := (hbw.block _ (by simp)).trans (by
      have := heap_alloc_new (w.alloc (.cells #[.slice none 0 0] 24)) (.cells #[.int .i64 0, .int .i64 0] 48)
      simpa using this)
    have hw0 : w.heap.size + 2 ≤ w0.heap.size := by rw [← hsz2]; exact hbw.size
    have hB0 : Below w.heap.size w w0 := below_then hb2 (by omega) hbw
    have HB0 := Aside0.mk hB0
    have HG0 := Aside0.mk (HG.out.below hB0)
    have H1 := Aside0.mk h1
    have H2 := Aside0.mk h2
    have HSI : Aside0 (SI w0 ((w0.alloc (.cells #[.slice AW (wordsS a0).length cW, .int .i64 0, .int .i64 0] 64)).alloc (.cells #[.slice none 0 0] 24)) w0.heap.size (w0.heap.size + 1) ⟨wordsS a0, 0, 0⟩ [] (.slice none 0 0)) := ⟨by
      have hba := below_alloc (Below.refl (w0.alloc (.cells #[.slice AW (wordsS a0).length cW, .int .i64 0, .int .i64 0] 64)).heap.size _) (.cells #[.slice none 0 0] 24)
      refine ⟨⟨AW, cW, (hba.block w0.heap.size (by simp)).trans (heap_alloc_new w0 _), hcW, Nat.le_refl _, hrdW, HPO.out⟩, below_alloc (below_alloc (Below.refl _ _) _) _, ?_, Kd.R_nil _ _ _ _ _, fun x hx => ?_, by simp⟩
      · have := heap_alloc_new (w0.alloc (.cells #[.slice AW (wordsS a0).length cW, .int .i64 0, .int .i64 0] 64)) (.cells #[.slice none 0 0] 24)
        simpa using this
      · have := HSM.out x hx
        omega⟩
    clear hown hbw hrdW hb2 hsz2 h1 h2 hB0 HW
    go_wp2
    go_loopg [30] (8 * a0.size + 64) (fun kq v30 wr => ∃ (s1 : St) (l1 : List S29) (v1 : Value), Aside0 (sitesF kq s1 l1 = some (stf, sf)) ∧ Aside0 (SI w0 wr w0.heap.size (w0.heap.size + 1) s1 l1 v1) ∧ Aside0 (l1.length + kq ≤ 8 * a0.size + 64))
    case atStart => exact ⟨_, [], _, HSF, HSI, ⟨by simp⟩⟩
    case round =>
      clear HSF HSI
      obtain ⟨s1, l1, v1, HF, HS, HL⟩ := hrel
      cases gk with
      | zero => exact absurd HF.out (by simp [sitesF])
      | succ k1 =>
        have hrd := HS.out.rd
        obtain ⟨AR, cR, hbR, hlcR, _, _, _⟩ := hrd
        have c1 : wr.cell? ⟨w0.heap.size, 1, none⟩ = some (.int .i64 s1.code) := (blk_cell hbR 1).trans rfl
        have c0 : wr.cell? ⟨w0.heap.size, 0, none⟩ = some (.slice AR s1.l.length cR) := (blk_cell hbR 0).trans rfl
        have c2 : wr.cell? ⟨w0.heap.size, 2, none⟩ = some (.int .i64 s1.line) := (blk_cell hbR 2).trans rfl
        clear hbR
        go_upto_region 5 with fail
        go_cut [28] from 15 to 30 (fun v28 W => ∃ b, v28 = .bool b ∧ Aside0 (b = (decide (s1.code = 0) && decide (1 < s1.l.length))) ∧ W = wr)
        case first =>
          by_cases t1 : s1.code = 0
          · have E : Aside0 (decide ((1 : Int) < (s1.l.length : Int)) = (decide (s1.code = 0) && decide (1 < s1.l.length))) := ⟨by rw [decide_eq_true t1, Bool.true_and]; exact decide_eq_decide.2 (by omega)⟩
            rw [t1] at c1
            clear t1
            go_wp2
            go_meet
            case rel => exact ⟨_, rfl, E, rfl⟩
          · have E : Aside0 (false = (decide (s1.code = 0) && decide (1 < s1.l.length))) := ⟨by rw [decide_eq_false t1]; rfl⟩
            have q1 : (s1.code == 0) = false := beq_eq_false_iff_ne.2 t1
            clear t1
            go_wp2
            go_meet
            case rel => exact ⟨_, rfl, E, rfl⟩
        case rest =>
        obtain ⟨b, rfl, HB, hW⟩ := hcut
        obtain rfl : wr = wc := hW.symm
        clear hW
        have HT := HF.out
        unfold sitesF at HT
        cases b with
        | true =>
          have hb := HB.out.symm
          simp only [Bool.and_eq_true, decide_eq_true_eq] at hb
          rw [if_pos hb] at HT
          cases hrr : siteF k1 s1 l1 with
          | none => rw [hrr] at HT; simp at HT
          | some rr =>
          rw [hrr] at HT
          obtain ⟨sa, sb⟩ := rr
          have HTN : Aside0 (sitesF k1 sa sb = some (stf, sf)) := ⟨HT⟩
          have HLN := Aside0.mk (siteF_len hrr)
          have HRU := Aside0.mk (reader_site_calls k1 w0 _ w0.heap.size (w0.heap.size + 1) s1 l1 v1 sa sb HS.out (by omega) (Nat.le_refl _) (by omega) HG0.out (by have := HL.out; have := HT0.out; omega) (by have := HL.out; have := HT0.out; omega) hrr)
          clear HT hrr hb HB HF c0 c1 c2
          go_wp2_with fail
          refine HRU.out.mono ?_
          rintro e w6 ⟨rfl, v6, hr6⟩
          have HR6 := Aside0.mk hr6
          clear hr6 HRU
          go_wp2
          go_roundg k1
          case measure => omega
          case rel => exact ⟨_, _, _, HTN, HR6, ⟨by rw [HLN.out]; have := HL.out; omega⟩⟩
        | false =>
          have HE : Aside0 (s1 = stf ∧ l1 = sf) := ⟨by
            rw [if_neg (fun hh => by have := HB.out; rw [decide_eq_true hh.1, decide_eq_true hh.2] at this; simp at this)] at HT
            simpa using HT⟩
          obtain ⟨e1, e2⟩ := HE.out
          subst e1 e2
          clear HE HB HF HT
          have b2 : wr.heap[w.heap.size]? = some (.cells #[.slice none 0 0] 24 (0, 0)) := (HS.out.bel.block _ (by omega)).trans H1.out
          have b3 : wr.heap[w.heap.size + 1]? = some (.cells #[.int .i64 0, .int .i64 0] 48 (0, 0)) := (HS.out.bel.block _ (by omega)).trans H2.out
          have k2 : wr.cell? ⟨w.heap.size, 0, none⟩ = some (.slice none 0 0) := (blk_cell b2 0).trans rfl
          have k30 : wr.cell? ⟨w.heap.size + 1, 0, none⟩ = some (.int .i64 0) := (blk_cell b3 0).trans rfl
          have k31 : wr.cell? ⟨w.heap.size + 1, 1, none⟩ = some (.int .i64 0) := (blk_cell b3 1).trans rfl
          have z2 : wr.frozen? ⟨w.heap.size, 0, none⟩ = false := blk_frozen b2 0
          have z30 : wr.frozen? ⟨w.heap.size + 1, 0, none⟩ = false := blk_frozen b3 0
          have z31 : wr.frozen? ⟨w.heap.size + 1, 1, none⟩ = false := blk_frozen b3 1
          have HB2 := Aside0.mk b2
          have HB3 := Aside0.mk b3
          obtain ⟨A1, n1, hv1⟩ := Kd.R_slice HS.out.own
          subst hv1
          have kg : wr.cell? ⟨w0.heap.size + 1, 0, none⟩ = some (.slice A1 l1.length n1) := (blk_cell HS.out.box 0).trans rfl
          have HR := HRE.out
          clear b2 b3 HRE
          by_cases t1 : s1.code = 0 ∧ s1.line = 0
          · rw [if_pos t1] at HR
            simp only [Prod.mk.injEq] at HR
            obtain ⟨rfl, rfl, rfl⟩ := HR
            rw [t1.1] at c1
            rw [t1.2] at c2
            clear t1
            go_wp2
            have g2 : (((wr.setCell ⟨w.heap.size, 0, none⟩ (.slice A1 l1.length n1)).setCell ⟨w.heap.size + 1, 0, none⟩ (.int .i64 0)).setCell ⟨w.heap.size + 1, 1, none⟩ (.int .i64 0)).heap[w.heap.size]? = some (.cells #[.slice A1 l1.length n1] 24 (0, 0)) := (Below.heap_setCell _ _ _ _ (by simp)).trans ((Below.heap_setCell _ _ _ _ (by simp)).trans (blk_put HB2.out 0 _ rfl))
            have g3 : (((wr.setCell ⟨w.heap.size, 0, none⟩ (.slice A1 l1.length n1)).setCell ⟨w.heap.size + 1, 0, none⟩ (.int .i64 0)).setCell ⟨w.heap.size + 1, 1, none⟩ (.int .i64 0)).heap[w.heap.size + 1]? = some (.cells #[.int .i64 0, .int .i64 0] 48 (0, 0)) := blk_put (blk_put ((Below.heap_setCell _ _ _ _ (by simp)).trans HB3.out) 0 _ rfl) 1 _ rfl
            have gb : Below w.heap.size w (((wr.setCell ⟨w.heap.size, 0, none⟩ (.slice A1 l1.length n1)).setCell ⟨w.heap.size + 1, 0, none⟩ (.int .i64 0)).setCell ⟨w.heap.size + 1, 1, none⟩ (.int .i64 0)) := below_set (below_set (below_set (below_then HB0.out HB0.out.size HS.out.bel) (by simp)) (by simp)) (by simp)
            refine bodyPost_ret (results_cc rfl _ _ w.heap.size (w.heap.size + 1) 24 48 #[.slice A1 l1.length n1] #[.int .i64 0, .int .i64 0] (0, 0) (0, 0) _ _ rfl g2 Tryd.underlying24 rfl (by kernel_rfl) rfl g3 Tryd.underlying48 rfl (by kernel_rfl)) rfl ?_
            have hR0 := Kd.R_mono (ok' := fun k => w0.heap.size ≤ k) (Kd.R_bound HS.out.own) (fun k hk => hk.2.1)
            have hR1 := Kd.R_far (Kd.R_far (Kd.R_far hR0 (p := ⟨w.heap.size, 0, none⟩) (fun k hk => by simp only; omega) (.slice A1 l1.length n1)) (p := ⟨w.heap.size + 1, 0, none⟩) (fun k hk => by simp only; omega) (.int .i64 0)) (p := ⟨w.heap.size + 1, 1, none⟩) (fun k hk => by simp only; omega) (.int .i64 0)
            exact ⟨_, rfl, Kd.R_V (Kd.R_mono hR1 (fun k hk => by omega)), gb⟩
          · rw [if_neg t1] at HR
            simp only [Prod.mk.injEq] at HR
            obtain ⟨rfl, rfl, rfl⟩ := HR
            have n1 : w0.heap.size ≠ w.heap.size := by omega
            have n2 : w.heap.size ≠ w0.heap.size := by omega
            by_cases t2 : s1.code = 0
            · have q2 : (s1.line == 0) = false := beq_eq_false_iff_ne.2 (fun h => t1 ⟨t2, h⟩)
              have T2 := Aside0.mk t2
              rw [t2] at c1
              clear t1 t2
              go_upto_region 8 with fail
              go_region
              all_goals
                go_wp2
                have g2 : ((((wr.setCell ⟨w.heap.size, 0, none⟩ (.slice none 0 0)).setCell ⟨w.heap.size + 1, 0, none⟩ (.int .i64 0)).setCell ⟨w.heap.size + 1, 1, none⟩ (.int .i64 s1.line)).drew).heap[w.heap.size]? = some (.cells #[.slice none 0 0] 24 (0, 0)) := blk_drew ((Below.heap_setCell _ _ _ _ (by simp)).trans ((Below.heap_setCell _ _ _ _ (by simp)).trans (blk_put HB2.out 0 _ rfl)))
                have g3 : ((((wr.setCell ⟨w.heap.size, 0, none⟩ (.slice none 0 0)).setCell ⟨w.heap.size + 1, 0, none⟩ (.int .i64 0)).setCell ⟨w.heap.size + 1, 1, none⟩ (.int .i64 s1.line)).drew).heap[w.heap.size + 1]? = some (.cells #[.int .i64 0, .int .i64 s1.line] 48 (0, 0)) := blk_drew (blk_put (blk_put ((Below.heap_setCell _ _ _ _ (by simp)).trans HB3.out) 0 _ rfl) 1 _ rfl)
                have gb : Below w.heap.size w ((((wr.setCell ⟨w.heap.size, 0, none⟩ (.slice none 0 0)).setCell ⟨w.heap.size + 1, 0, none⟩ (.int .i64 0)).setCell ⟨w.heap.size + 1, 1, none⟩ (.int .i64 s1.line)).drew) := below_drew (below_set (below_set (below_set (below_then HB0.out HB0.out.size HS.out.bel) (by simp)) (by simp)) (by simp))
                refine bodyPost_ret (results_cc rfl _ _ w.heap.size (w.heap.size + 1) 24 48 #[.slice none 0 0] #[.int .i64 0, .int .i64 s1.line] (0, 0) (0, 0) _ _ rfl g2 Tryd.underlying24 rfl (by kernel_rfl) rfl g3 Tryd.underlying48 rfl (by kernel_rfl)) rfl ?_
                exact ⟨_, by rw [T2.out], Kd.R_V (Kd.R_nil _ _ _ w.heap.size _), gb⟩
            · have q2 : (s1.code == 0) = false := beq_eq_false_iff_ne.2 t2
              clear t1 t2
              go_upto_region 8 with fail
              go_region
              all_goals
                go_wp2
                have g2 : ((((wr.setCell ⟨w.heap.size, 0, none⟩ (.slice none 0 0)).setCell ⟨w.heap.size + 1, 0, none⟩ (.int .i64 s1.code)).setCell ⟨w.heap.size + 1, 1, none⟩ (.int .i64 s1.line)).drew).heap[w.heap.size]? = some (.cells #[.slice none 0 0] 24 (0, 0)) := blk_drew ((Below.heap_setCell _ _ _ _ (by simp)).trans ((Below.heap_setCell _ _ _ _ (by simp)).trans (blk_put HB2.out 0 _ rfl)))
                have g3 : ((((wr.setCell ⟨w.heap.size, 0, none⟩ (.slice none 0 0)).setCell ⟨w.heap.size + 1, 0, none⟩ (.int .i64 s1.code)).setCell ⟨w.heap.size + 1, 1, none⟩ (.int .i64 s1.line)).drew).heap[w.heap.size + 1]? = some (.cells #[.int .i64 s1.code, .int .i64 s1.line] 48 (0, 0)) := blk_drew (blk_put (blk_put ((Below.heap_setCell _ _ _ _ (by simp)).trans HB3.out) 0 _ rfl) 1 _ rfl)
                have gb : Below w.heap.size w ((((wr.setCell ⟨w.heap.size, 0, none⟩ (.slice none 0 0)).setCell ⟨w.heap.size + 1, 0, none⟩ (.int .i64 s1.code)).setCell ⟨w.heap.size + 1, 1, none⟩ (.int .i64 s1.line)).drew) := below_drew (below_set (below_set (below_set (below_then HB0.out HB0.out.size HS.out.bel) (by simp)) (by simp)) (by simp))
                refine bodyPost_ret (results_cc rfl _ _ w.heap.size (w.heap.size + 1) 24 48 #[.slice none 0 0] #[.int .i64 s1.code, .int .i64 s1.line] (0, 0) (0, 0) _ _ rfl g2 Tryd.underlying24 rfl (by kernel_rfl) rfl g3 Tryd.underlying48 rfl (by kernel_rfl)) rfl ?_
                exact ⟨_, rfl, Kd.R_V (Kd.R_nil _ _ _ w.heap.size _), gb⟩
end Go.Proofs.YtcoaajkhfgakgaaDoor.Pr
end

section
namespace Go.Proofs.YtcoaajkhfgakgaaDoor.Pr
open Go.RowKit Go.Proofs.YtcoaajkhfgakgaaDoorW.PrintWords Go.Proofs.YtcoaajkhfgakgaaDoorW.PrintLast Go.Proofs.YtcoaajkhfgakgaaDoorW.PrintMore
attribute [local go_sem] max2_int min2_int max_two min_two max_three min_three max_four min_four   -- for this text's walks alone
set_option linter.unusedVariables false
set_option linter.unusedSimpArgs false
attribute [local go_sem high] eqA48
def pantrylaw09_anchor.f  : Option (Bool) := (conf_Read.f (⟨#[115, 105, 116, 101, 32, 97, 46, 98, 32, 123, 32, 116, 116, 108, 32, 53, 32, 54, 48, 59, 32, 107, 101, 121, 32, 112, 97, 116, 104, 32, 104, 101, 97, 100, 101, 114, 32, 97, 99, 99, 101, 112, 116, 59, 32, 125]⟩ : ByteArray)).bind fun bt101 => ((conf_Read.f (⟨#[115, 105, 116, 101, 32, 97, 32, 123, 10, 32, 111, 114, 105, 103, 105, 110, 32, 48, 59, 32, 125]⟩ : ByteArray)).bind fun bt108 => (if (bt101.2.1 == 0 && (bt101.2.2 == 0)) = true then (if (bt101.1.length : Int) = 1 then (if 0 < (bt101.1.length : Int) then (if ((rd_T29 bt101.1 0).f1) = 1 then (if ((rd_T29 bt101.1 0).f2) = 5 then (if ((rd_T29 bt101.1 0).f3) = 60 then (if ((rd_T29 bt101.1 0).f4 = true) then (some false) else (if (rd_T29 bt101.1 0).f5 = true then (some (bt108.2.1 == 11 && (bt108.2.2 == 2))) else (some false))) else (some false)) else (some false)) else (some false)) else (none)) else (some false)) else (some false)))
set_option maxHeartbeats 8000000 in
set_option maxRecDepth 100000 in
theorem pantrylaw09_anchor.callsT  (r : Bool) (hT : Aside0 (r = true)) (w : World) (hG : GL w) (h : pantrylaw09_anchor.f  = some r) :
    Calls Tryd.prog 8 #[] w fun e w' => e = .returned (.bool r) ∧ Below w.heap.size w w' := by
 have hu24 := Tryd.underlying24
 have hu48 := Tryd.underlying48
 have HB := Aside0.mk (Below.refl w.heap.size w)
 have H : ((conf_Read.f (⟨#[115, 105, 116, 101, 32, 97, 46, 98, 32, 123, 32, 116, 116, 108, 32, 53, 32, 54, 48, 59, 32, 107, 101, 121, 32, 112, 97, 116, 104, 32, 104, 101, 97, 100, 101, 114, 32, 97, 99, 99, 101, 112, 116, 59, 32, 125]⟩ : ByteArray)).bind fun bt101 => ((conf_Read.f (⟨#[115, 105, 116, 101, 32, 97, 32, 123, 10, 32, 111, 114, 105, 103, 105, 110, 32, 48, 59, 32, 125]⟩ : ByteArray)).bind fun bt108 => (if (bt101.2.1 == 0 && (bt101.2.2 == 0)) = true then (if (bt101.1.length : Int) = 1 then (if 0 < (bt101.1.length : Int) then (if ((rd_T29 bt101.1 0).f1) = 1 then (if ((rd_T29 bt101.1 0).f2) = 5 then (if ((rd_T29 bt101.1 0).f3) = 60 then (if ((rd_T29 bt101.1 0).f4 = true) then (some false) else (if (rd_T29 bt101.1 0).f5 = true then (some (bt108.2.1 == 11 && (bt108.2.2 == 2))) else (some false))) else (some false)) else (some false)) else (some false)) else (none)) else (some false)) else (some false)))) = some r := h
 clear h
 replace H := Option.bind_eq_some_iff.mp H
 obtain ⟨⟨t101, t104, t105⟩, A10, H⟩ := H
 replace H : ((conf_Read.f (⟨#[115, 105, 116, 101, 32, 97, 32, 123, 10, 32, 111, 114, 105, 103, 105, 110, 32, 48, 59, 32, 125]⟩ : ByteArray)).bind fun bt108 => (if (t104 == 0 && (t105 == 0)) = true then (if (t101.length : Int) = 1 then (if 0 < (t101.length : Int) then (if ((rd_T29 t101 0).f1) = 1 then (if ((rd_T29 t101 0).f2) = 5 then (if ((rd_T29 t101 0).f3) = 60 then (if ((rd_T29 t101 0).f4 = true) then (some false) else (if (rd_T29 t101 0).f5 = true then (some (bt108.2.1 == 11 && (bt108.2.2 == 2))) else (some false))) else (some false)) else (some false)) else (some false)) else (none)) else (some false)) else (some false))) = some r := H
 have A1 := Aside0.mk A10
 clear A10
 replace H := Option.bind_eq_some_iff.mp H
 obtain ⟨⟨t108, t111, t112⟩, A20, H⟩ := H
 replace H : (if (t104 == 0 && (t105 == 0)) = true then (if (t101.length : Int) = 1 then (if 0 < (t101.length : Int) then (if ((rd_T29 t101 0).f1) = 1 then (if ((rd_T29 t101 0).f2) = 5 then (if ((rd_T29 t101 0).f3) = 60 then (if ((rd_T29 t101 0).f4 = true) then (some false) else (if (rd_T29 t101 0).f5 = true then (some (t111 == 11 && (t112 == 2))) else (some false))) else (some false)) else (some false)) else (some false)) else (none)) else (some false)) else (some false)) = some r := H
 have A2 := Aside0.mk A20
 clear A20
 by_cases c3 : (t104 == 0 && (t105 == 0)) = true
 ·
  rw [if_pos c3] at H
  have c3b0 : (t104 == 0 && (t105 == 0)) = true := c3
  (try (have c3b1 : decide (t104 = 0 && (t105 == 0)) = true := by simpa using c3))
  (try (have c3b2 : (t104 == 0 && (t105 == 0)) = true := by simpa using c3))
  clear c3
  by_cases c4 : (t101.length : Int) = 1
  ·
   rw [if_pos c4] at H
   have c4b0 : ((t101.length : Int) == 1) = true := beq_iff_eq.mpr c4
   have c4b1 : ((t101.length : Int) != 1) = false := bne_eq_false_iff_eq.mpr c4
   clear c4
   by_cases c5 : 0 < (t101.length : Int)
   ·
    rw [if_pos c5] at H
    have c5b0 : decide (0 < (t101.length : Int)) = true := decide_eq_true c5
    have c5b1 : decide (0 < t101.length) = true := decide_eq_true (by omega)
    clear c5
    by_cases c6 : ((rd_T29 t101 0).f1) = 1
    ·
     rw [if_pos c6] at H
     have c6b0 : (((rd_T29 t101 0).f1) == 1) = true := beq_iff_eq.mpr c6
     have c6b1 : (((rd_T29 t101 0).f1) != 1) = false := bne_eq_false_iff_eq.mpr c6
     clear c6
     by_cases c7 : ((rd_T29 t101 0).f2) = 5
     ·
      rw [if_pos c7] at H
      have c7b0 : (((rd_T29 t101 0).f2) == 5) = true := beq_iff_eq.mpr c7
      have c7b1 : (((rd_T29 t101 0).f2) != 5) = false := bne_eq_false_iff_eq.mpr c7
      clear c7
      by_cases c8 : ((rd_T29 t101 0).f3) = 60
      ·
       rw [if_pos c8] at H
       have c8b0 : (((rd_T29 t101 0).f3) == 60) = true := beq_iff_eq.mpr c8
       have c8b1 : (((rd_T29 t101 0).f3) != 60) = false := bne_eq_false_iff_eq.mpr c8
       clear c8
       obtain ⟨bq9, hbq9⟩ : ∃ b_ : Bool, b_ = ((rd_T29 t101 0).f4) := ⟨_, rfl⟩
       replace H : (if (bq9 = true) then (some false) else (if (rd_T29 t101 0).f5 = true then (some (t111 == 11 && (t112 == 2))) else (some false))) = some r := by rw [← hbq9] at H; exact H
       have Nbq9 := Aside0.mk hbq9
       clear hbq9
       by_cases c10 : (bq9 = true)
       ·
        subst c10
        have H1 : (some false) = some r := by rw [if_pos rfl] at H; exact H
        exact absurd (Option.some.inj H1) (by rw [hT.out]; decide)
       ·
        replace c10 := Bool.eq_false_iff.mpr c10
        subst c10
        have H1 : (if (rd_T29 t101 0).f5 = true then (some (t111 == 11 && (t112 == 2))) else (some false)) = some r := by rw [if_neg (show ¬ (false = true) by decide)] at H; exact H
        clear H
        have H := H1
        clear H1
        obtain ⟨bq33, hbq33⟩ : ∃ b_ : Bool, b_ = ((rd_T29 t101 0).f5) := ⟨_, rfl⟩
        replace H : (if bq33 = true then (some (t111 == 11 && (t112 == 2))) else (some false)) = some r := by rw [← hbq33] at H; exact H
        have Nbq33 := Aside0.mk hbq33
        clear hbq33
        by_cases c34 : bq33 = true
        ·
         subst c34
         have H1 : (some (t111 == 11 && (t112 == 2))) = some r := by rw [if_pos rfl] at H; exact H
         clear H
         have H := H1
         clear H1
         obtain rfl := Option.some.inj H
         go_enter Tryd.func8, Tryd.ntmps8
         go_wp2_with (first | ((with_reducible refine gate_callee (f := 16) rfl ?_); refine goesL_ (some 6) rfl rfl Tryd.func16 (by kernel_rfl) rfl #[.string (⟨#[115, 105, 116, 101, 32, 97, 46, 98, 32, 123, 32, 116, 116, 108, 32, 53, 32, 54, 48, 59, 32, 107, 101, 121, 32, 112, 97, 116, 104, 32, 104, 101, 97, 100, 101, 114, 32, 97, 99, 99, 101, 112, 116, 59, 32, 125]⟩ : ByteArray)] rfl (by (try simp only [List.map_toArray, List.map_cons, List.map_nil]); first | done | rfl | (simp only [List.length_drop, List.length_take]; rfl)) ?_; (with_reducible refine (conf_Read.calls (⟨#[115, 105, 116, 101, 32, 97, 46, 98, 32, 123, 32, 116, 116, 108, 32, 53, 32, 54, 48, 59, 32, 107, 101, 121, 32, 112, 97, 116, 104, 32, 104, 101, 97, 100, 101, 114, 32, 97, 99, 99, 101, 112, 116, 59, 32, 125]⟩ : ByteArray) t101 t104 t105 _ ?side1 A1.out).mono ?_); (case side1 => exact GL.below hG (by repeat (first | (with_reducible first | exact HB.out | apply below_alloc | apply pw_below_drewN | apply below_drew1) | exact HB.out))); rintro e w35 ⟨v102, rfl, ho0, hb⟩; refine ⟨_, rfl, ?_⟩; have n0_ := Aside0.mk (Kd.V_lower (Kd.V_mono (ok' := fun k_ => True) ho0 (fun k_ hk_ => trivial)) (below_size (by repeat (first | (with_reducible first | exact HB.out | apply below_alloc | apply pw_below_drewN | apply below_drew1) | exact HB.out)))); have n1_ := Aside0.mk (below_step (by repeat (first | (with_reducible first | exact HB.out | apply below_alloc | apply pw_below_drewN | apply below_drew1) | exact HB.out)) hb); clear HB; have HO103 := n0_; have HB := n1_; clear n0_ n1_; (try clear hb); (try clear hb2); (try clear hk); (try clear hi); (try clear ho0)) | ((with_reducible refine gate_dst (N := 1) rfl ?_); (try (refine gate_guard (by rfl) ?_; dsimp only)); refine box_event ?hg (N := 1) ?hd (cs := #[.slice none 0 0]) (t := 24) ?hr ?_; (case hd => rfl); (case hg => rfl); (case hr => first | (go_simp; done) | (go_simp; rfl)); intro gb106 hg w36 hbox hb; have n0_ := Aside0.mk (Kd.V_below (Kd.V_elderB (by (with_reducible repeat (first | apply Kd.V_alloc | apply Kd.V_drewN | apply Kd.V_drew)); exact HO103.out) gb106 (Nat.le_of_eq hg.symm)) hb); have n1_ := Aside0.mk (below_step (by repeat (first | (with_reducible first | exact HB.out | apply below_alloc | apply pw_below_drewN | apply below_drew1) | exact HB.out)) hb); have n2_ := Aside0.mk (hbox); have n3_ := Aside0.mk ((by rw [hg]; exact (below_size (by repeat (first | (with_reducible first | exact HB.out | apply below_alloc | apply pw_below_drewN | apply below_drew1) | exact HB.out))) : w.heap.size ≤ gb106)); have n4_ := Aside0.mk ((by rw [hg]; exact (below_size (by repeat (first | (with_reducible first | exact HB.out | apply below_alloc | apply pw_below_drewN | apply below_drew1) | exact HB.out))) : w.heap.size ≤ gb106)); clear HO103; clear HB; have HO103 := n0_; have HB := n1_; have BK106 := n2_; have GW106 := n3_; have GE106 := n4_; clear n0_ n1_ n2_ n3_ n4_; clear hb hbox hg) | ((with_reducible refine gate_dst (N := 2) rfl ?_); (try (refine gate_guard (by rfl) ?_; dsimp only)); refine box_event ?hg (N := 2) ?hd (cs := #[.int .i64 0, .int .i64 0]) (t := 48) ?hr ?_; (case hd => rfl); (case hg => rfl); (case hr => first | (go_simp; done) | (go_simp; rfl)); intro gb107 hg w37 hbox hb; have n0_ := Aside0.mk (Kd.V_below (Kd.V_elderB (by (with_reducible repeat (first | apply Kd.V_alloc | apply Kd.V_drewN | apply Kd.V_drew)); exact HO103.out) gb107 (Nat.le_of_eq hg.symm)) hb); have n1_ := Aside0.mk (blk_below (g := gb106) (o := .cells #[.slice none 0 0] 24 (0, 0)) (by (with_reducible repeat (first | refine blk_drewN ?_ _ | refine blk_drew ?_ | refine blk_alloc ?_ _)); exact BK106.out) hb); have n2_ := Aside0.mk (below_step (by repeat (first | (with_reducible first | exact HB.out | apply below_alloc | apply pw_below_drewN | apply below_drew1 | refine below_set ?_ GE106.out) | exact HB.out)) hb); have n3_ := Aside0.mk (hbox); have n4_ := Aside0.mk ((by rw [hg]; exact (below_size (by repeat (first | (with_reducible first | exact HB.out | apply below_alloc | apply pw_below_drewN | apply below_drew1 | refine below_set ?_ GE106.out) | exact HB.out))) : w.heap.size ≤ gb107)); have n5_ := Aside0.mk ((by rw [hg]; exact (below_size (by repeat (first | (with_reducible first | exact HB.out | apply below_alloc | apply pw_below_drewN | apply below_drew1 | refine below_set ?_ GE106.out) | exact HB.out))) : w.heap.size ≤ gb107)); have n6_ := Aside0.mk ((by rw [hg]; exact Nat.ne_of_lt (blk_lt (g := gb106) (o := .cells #[.slice none 0 0] 24 (0, 0)) (by (with_reducible repeat (first | refine blk_drewN ?_ _ | refine blk_drew ?_ | refine blk_alloc ?_ _)); exact BK106.out)) : gb106 ≠ gb107)); have n7_ := Aside0.mk ((by rw [hg]; exact Nat.ne_of_gt (blk_lt (g := gb106) (o := .cells #[.slice none 0 0] 24 (0, 0)) (by (with_reducible repeat (first | refine blk_drewN ?_ _ | refine blk_drew ?_ | refine blk_alloc ?_ _)); exact BK106.out)) : gb107 ≠ gb106)); clear HO103; clear BK106; clear HB; have HO103 := n0_; have BK106 := n1_; have HB := n2_; have BK107 := n3_; have GW107 := n4_; have GE107 := n5_; have NB106_107 := n6_; have NB107_106 := n7_; clear n0_ n1_ n2_ n3_ n4_ n5_ n6_ n7_; clear hb hbox hg; obtain ⟨Ao38, co38, eo38⟩ := Kd.V_slice HO103.out; subst eo38; have hnb39 := NB106_107.out; have hnc39 := NB107_106.out; have hcz40_0 : w37.cell? ⟨gb106, 0, none⟩ = some (.slice none 0 0) := (blk_cell BK106.out 0).trans rfl; have hfz40_0 := blk_frozen BK106.out 0; have hcz41_0 : w37.cell? ⟨gb107, 0, none⟩ = some (.int .i64 0) := (blk_cell BK107.out 0).trans rfl; have hcz41_1 : w37.cell? ⟨gb107, 1, none⟩ = some (.int .i64 0) := (blk_cell BK107.out 1).trans rfl; have hfz41_0 := blk_frozen BK107.out 0; have hfz41_1 := blk_frozen BK107.out 1) | ((with_reducible refine gate_callee (f := 16) rfl ?_); refine goesL_ (some 10) rfl rfl Tryd.func16 (by kernel_rfl) rfl #[.string (⟨#[115, 105, 116, 101, 32, 97, 32, 123, 10, 32, 111, 114, 105, 103, 105, 110, 32, 48, 59, 32, 125]⟩ : ByteArray)] rfl (by (try simp only [List.map_toArray, List.map_cons, List.map_nil]); first | done | rfl | (simp only [List.length_drop, List.length_take]; rfl)) ?_; (with_reducible refine (conf_Read.calls (⟨#[115, 105, 116, 101, 32, 97, 32, 123, 10, 32, 111, 114, 105, 103, 105, 110, 32, 48, 59, 32, 125]⟩ : ByteArray) t108 t111 t112 _ ?side1 A2.out).mono ?_); (case side1 => exact GL.below hG (by repeat (first | (with_reducible first | exact HB.out | apply below_alloc | apply pw_below_drewN | apply below_drew1 | refine below_set ?_ GE106.out | refine below_set ?_ GE107.out) | exact HB.out))); rintro e w42 ⟨v109, rfl, ho0, hb⟩; refine ⟨_, rfl, ?_⟩; have n0_ := Aside0.mk (Kd.V_below (by (with_reducible repeat (first | apply Kd.V_alloc | apply Kd.V_drewN | apply Kd.V_drew)); exact (Kd.V_mono (Kd.V_mono (Kd.V_far (p := ⟨gb107, 1, none⟩) (Kd.V_far (p := ⟨gb107, 0, none⟩) (Kd.V_far (p := ⟨gb106, 0, none⟩) (Kd.V_mono (Kd.V_mono HO103.out (fun k_ hk => (⟨hk, hk.1.2⟩ : _ ∧ k_ ≠ gb106))) (fun k_ hk => (⟨hk, hk.1.2⟩ : _ ∧ k_ ≠ gb107))) (fun _ hk => hk.1.2) (.slice Ao38 t101.length co38)) (fun _ hk => hk.2) (.int .i64 t104)) (fun _ hk => hk.2) (.int .i64 t105)) (fun _ h_ => h_.1)) (fun _ h_ => h_.1))) hb); have n1_ := Aside0.mk (Kd.V_lower (Kd.V_mono (ok' := fun k_ => k_ ≠ gb106 ∧ k_ ≠ gb107) ho0 (fun k_ hk_ => ⟨(Kd.freshB (g := gb106) (o := .cells #[.slice Ao38 t101.length co38] 24 (0, 0)) (by (with_reducible repeat (first | refine blk_drewN ?_ _ | refine blk_drew ?_ | refine blk_alloc ?_ _)); refine blk_far ?_ NB106_107.out _; (with_reducible repeat (first | refine blk_drewN ?_ _ | refine blk_drew ?_ | refine blk_alloc ?_ _)); refine blk_far ?_ NB106_107.out _; (with_reducible repeat (first | refine blk_drewN ?_ _ | refine blk_drew ?_ | refine blk_alloc ?_ _)); refine blk_put (cs := #[.slice none 0 0]) ?_ 0 _ rfl; (with_reducible repeat (first | refine blk_drewN ?_ _ | refine blk_drew ?_ | refine blk_alloc ?_ _)); exact BK106.out) k_ hk_), (Kd.freshB (g := gb107) (o := .cells #[.int .i64 t104, .int .i64 t105] 48 (0, 0)) (by (with_reducible repeat (first | refine blk_drewN ?_ _ | refine blk_drew ?_ | refine blk_alloc ?_ _)); refine blk_put (cs := #[.int .i64 t104, .int .i64 0]) ?_ 1 _ rfl; (with_reducible repeat (first | refine blk_drewN ?_ _ | refine blk_drew ?_ | refine blk_alloc ?_ _)); refine blk_put (cs := #[.int .i64 0, .int .i64 0]) ?_ 0 _ rfl; (with_reducible repeat (first | refine blk_drewN ?_ _ | refine blk_drew ?_ | refine blk_alloc ?_ _)); refine blk_far ?_ NB107_106.out _; (with_reducible repeat (first | refine blk_drewN ?_ _ | refine blk_drew ?_ | refine blk_alloc ?_ _)); exact BK107.out) k_ hk_)⟩)) (below_size (by repeat (first | (with_reducible first | exact HB.out | apply below_alloc | apply pw_below_drewN | apply below_drew1 | refine below_set ?_ GE106.out | refine below_set ?_ GE107.out) | exact HB.out)))); have n2_ := Aside0.mk (blk_below (g := gb106) (o := .cells #[.slice Ao38 t101.length co38] 24 (0, 0)) (by (with_reducible repeat (first | refine blk_drewN ?_ _ | refine blk_drew ?_ | refine blk_alloc ?_ _)); refine blk_far ?_ NB106_107.out _; (with_reducible repeat (first | refine blk_drewN ?_ _ | refine blk_drew ?_ | refine blk_alloc ?_ _)); refine blk_far ?_ NB106_107.out _; (with_reducible repeat (first | refine blk_drewN ?_ _ | refine blk_drew ?_ | refine blk_alloc ?_ _)); refine blk_put (cs := #[.slice none 0 0]) ?_ 0 _ rfl; (with_reducible repeat (first | refine blk_drewN ?_ _ | refine blk_drew ?_ | refine blk_alloc ?_ _)); exact BK106.out) hb); have n3_ := Aside0.mk (blk_below (g := gb107) (o := .cells #[.int .i64 t104, .int .i64 t105] 48 (0, 0)) (by (with_reducible repeat (first | refine blk_drewN ?_ _ | refine blk_drew ?_ | refine blk_alloc ?_ _)); refine blk_put (cs := #[.int .i64 t104, .int .i64 0]) ?_ 1 _ rfl; (with_reducible repeat (first | refine blk_drewN ?_ _ | refine blk_drew ?_ | refine blk_alloc ?_ _)); refine blk_put (cs := #[.int .i64 0, .int .i64 0]) ?_ 0 _ rfl; (with_reducible repeat (first | refine blk_drewN ?_ _ | refine blk_drew ?_ | refine blk_alloc ?_ _)); refine blk_far ?_ NB107_106.out _; (with_reducible repeat (first | refine blk_drewN ?_ _ | refine blk_drew ?_ | refine blk_alloc ?_ _)); exact BK107.out) hb); have n4_ := Aside0.mk (below_step (by repeat (first | (with_reducible first | exact HB.out | apply below_alloc | apply pw_below_drewN | apply below_drew1 | refine below_set ?_ GE106.out | refine below_set ?_ GE107.out) | exact HB.out)) hb); clear HO103; clear BK106; clear BK107; clear HB; have HO103 := n0_; have HO110 := n1_; have BK106 := n2_; have BK107 := n3_; have HB := n4_; clear n0_ n1_ n2_ n3_ n4_; (try clear hb); (try clear hb2); (try clear hk); (try clear hi); (try clear ho0)) | ((with_reducible refine gate_dst (N := 3) rfl ?_); (try (refine gate_guard (by rfl) ?_; dsimp only)); refine box_event ?hg (N := 3) ?hd (cs := #[.slice none 0 0]) (t := 24) ?hr ?_; (case hd => rfl); (case hg => rfl); (case hr => first | (go_simp; done) | (go_simp; rfl)); intro gb113 hg w43 hbox hb; have n0_ := Aside0.mk (Kd.V_below (Kd.V_elderB (by (with_reducible repeat (first | apply Kd.V_alloc | apply Kd.V_drewN | apply Kd.V_drew)); exact HO103.out) gb113 (Nat.le_of_eq hg.symm)) hb); have n1_ := Aside0.mk (Kd.V_below (Kd.V_elderB (by (with_reducible repeat (first | apply Kd.V_alloc | apply Kd.V_drewN | apply Kd.V_drew)); exact HO110.out) gb113 (Nat.le_of_eq hg.symm)) hb); have n2_ := Aside0.mk (blk_below (g := gb106) (o := .cells #[.slice Ao38 t101.length co38] 24 (0, 0)) (by (with_reducible repeat (first | refine blk_drewN ?_ _ | refine blk_drew ?_ | refine blk_alloc ?_ _)); exact BK106.out) hb); have n3_ := Aside0.mk (blk_below (g := gb107) (o := .cells #[.int .i64 t104, .int .i64 t105] 48 (0, 0)) (by (with_reducible repeat (first | refine blk_drewN ?_ _ | refine blk_drew ?_ | refine blk_alloc ?_ _)); exact BK107.out) hb); have n4_ := Aside0.mk (below_step (by repeat (first | (with_reducible first | exact HB.out | apply below_alloc | apply pw_below_drewN | apply below_drew1 | refine below_set ?_ GE106.out | refine below_set ?_ GE107.out) | exact HB.out)) hb); have n5_ := Aside0.mk (hbox); have n6_ := Aside0.mk ((by rw [hg]; exact (below_size (by repeat (first | (with_reducible first | exact HB.out | apply below_alloc | apply pw_below_drewN | apply below_drew1 | refine below_set ?_ GE106.out | refine below_set ?_ GE107.out) | exact HB.out))) : w.heap.size ≤ gb113)); have n7_ := Aside0.mk ((by rw [hg]; exact (below_size (by repeat (first | (with_reducible first | exact HB.out | apply below_alloc | apply pw_below_drewN | apply below_drew1 | refine below_set ?_ GE106.out | refine below_set ?_ GE107.out) | exact HB.out))) : w.heap.size ≤ gb113)); have n8_ := Aside0.mk ((by rw [hg]; exact Nat.ne_of_lt (blk_lt (g := gb106) (o := .cells #[.slice Ao38 t101.length co38] 24 (0, 0)) (by (with_reducible repeat (first | refine blk_drewN ?_ _ | refine blk_drew ?_ | refine blk_alloc ?_ _)); exact BK106.out)) : gb106 ≠ gb113)); have n9_ := Aside0.mk ((by rw [hg]; exact Nat.ne_of_gt (blk_lt (g := gb106) (o := .cells #[.slice Ao38 t101.length co38] 24 (0, 0)) (by (with_reducible repeat (first | refine blk_drewN ?_ _ | refine blk_drew ?_ | refine blk_alloc ?_ _)); exact BK106.out)) : gb113 ≠ gb106)); have n10_ := Aside0.mk ((by rw [hg]; exact Nat.ne_of_lt (blk_lt (g := gb107) (o := .cells #[.int .i64 t104, .int .i64 t105] 48 (0, 0)) (by (with_reducible repeat (first | refine blk_drewN ?_ _ | refine blk_drew ?_ | refine blk_alloc ?_ _)); exact BK107.out)) : gb107 ≠ gb113)); have n11_ := Aside0.mk ((by rw [hg]; exact Nat.ne_of_gt (blk_lt (g := gb107) (o := .cells #[.int .i64 t104, .int .i64 t105] 48 (0, 0)) (by (with_reducible repeat (first | refine blk_drewN ?_ _ | refine blk_drew ?_ | refine blk_alloc ?_ _)); exact BK107.out)) : gb113 ≠ gb107)); clear HO103; clear HO110; clear BK106; clear BK107; clear HB; have HO103 := n0_; have HO110 := n1_; have BK106 := n2_; have BK107 := n3_; have HB := n4_; have BK113 := n5_; have GW113 := n6_; have GE113 := n7_; have NB106_113 := n8_; have NB113_106 := n9_; have NB107_113 := n10_; have NB113_107 := n11_; clear n0_ n1_ n2_ n3_ n4_ n5_ n6_ n7_ n8_ n9_ n10_ n11_; clear hb hbox hg) | ((with_reducible refine gate_dst (N := 4) rfl ?_); (try (refine gate_guard (by rfl) ?_; dsimp only)); refine box_event ?hg (N := 4) ?hd (cs := #[.int .i64 0, .int .i64 0]) (t := 48) ?hr ?_; (case hd => rfl); (case hg => rfl); (case hr => first | (go_simp; done) | (go_simp; rfl)); intro gb114 hg w44 hbox hb; have n0_ := Aside0.mk (Kd.V_below (Kd.V_elderB (by (with_reducible repeat (first | apply Kd.V_alloc | apply Kd.V_drewN | apply Kd.V_drew)); exact HO103.out) gb114 (Nat.le_of_eq hg.symm)) hb); have n1_ := Aside0.mk (Kd.V_below (Kd.V_elderB (by (with_reducible repeat (first | apply Kd.V_alloc | apply Kd.V_drewN | apply Kd.V_drew)); exact HO110.out) gb114 (Nat.le_of_eq hg.symm)) hb); have n2_ := Aside0.mk (blk_below (g := gb106) (o := .cells #[.slice Ao38 t101.length co38] 24 (0, 0)) (by (with_reducible repeat (first | refine blk_drewN ?_ _ | refine blk_drew ?_ | refine blk_alloc ?_ _)); exact BK106.out) hb); have n3_ := Aside0.mk (blk_below (g := gb107) (o := .cells #[.int .i64 t104, .int .i64 t105] 48 (0, 0)) (by (with_reducible repeat (first | refine blk_drewN ?_ _ | refine blk_drew ?_ | refine blk_alloc ?_ _)); exact BK107.out) hb); have n4_ := Aside0.mk (blk_below (g := gb113) (o := .cells #[.slice none 0 0] 24 (0, 0)) (by (with_reducible repeat (first | refine blk_drewN ?_ _ | refine blk_drew ?_ | refine blk_alloc ?_ _)); exact BK113.out) hb); have n5_ := Aside0.mk (below_step (by repeat (first | (with_reducible first | exact HB.out | apply below_alloc | apply pw_below_drewN | apply below_drew1 | refine below_set ?_ GE106.out | refine below_set ?_ GE107.out | refine below_set ?_ GE113.out) | exact HB.out)) hb); have n6_ := Aside0.mk (hbox); have n7_ := Aside0.mk ((by rw [hg]; exact (below_size (by repeat (first | (with_reducible first | exact HB.out | apply below_alloc | apply pw_below_drewN | apply below_drew1 | refine below_set ?_ GE106.out | refine below_set ?_ GE107.out | refine below_set ?_ GE113.out) | exact HB.out))) : w.heap.size ≤ gb114)); have n8_ := Aside0.mk ((by rw [hg]; exact (below_size (by repeat (first | (with_reducible first | exact HB.out | apply below_alloc | apply pw_below_drewN | apply below_drew1 | refine below_set ?_ GE106.out | refine below_set ?_ GE107.out | refine below_set ?_ GE113.out) | exact HB.out))) : w.heap.size ≤ gb114)); have n9_ := Aside0.mk ((by rw [hg]; exact Nat.ne_of_lt (blk_lt (g := gb106) (o := .cells #[.slice Ao38 t101.length co38] 24 (0, 0)) (by (with_reducible repeat (first | refine blk_drewN ?_ _ | refine blk_drew ?_ | refine blk_alloc ?_ _)); exact BK106.out)) : gb106 ≠ gb114)); have n10_ := Aside0.mk ((by rw [hg]; exact Nat.ne_of_gt (blk_lt (g := gb106) (o := .cells #[.slice Ao38 t101.length co38] 24 (0, 0)) (by (with_reducible repeat (first | refine blk_drewN ?_ _ | refine blk_drew ?_ | refine blk_alloc ?_ _)); exact BK106.out)) : gb114 ≠ gb106)); have n11_ := Aside0.mk ((by rw [hg]; exact Nat.ne_of_lt (blk_lt (g := gb107) (o := .cells #[.int .i64 t104, .int .i64 t105] 48 (0, 0)) (by (with_reducible repeat (first | refine blk_drewN ?_ _ | refine blk_drew ?_ | refine blk_alloc ?_ _)); exact BK107.out)) : gb107 ≠ gb114)); have n12_ := Aside0.mk ((by rw [hg]; exact Nat.ne_of_gt (blk_lt (g := gb107) (o := .cells #[.int .i64 t104, .int .i64 t105] 48 (0, 0)) (by (with_reducible repeat (first | refine blk_drewN ?_ _ | refine blk_drew ?_ | refine blk_alloc ?_ _)); exact BK107.out)) : gb114 ≠ gb107)); have n13_ := Aside0.mk ((by rw [hg]; exact Nat.ne_of_lt (blk_lt (g := gb113) (o := .cells #[.slice none 0 0] 24 (0, 0)) (by (with_reducible repeat (first | refine blk_drewN ?_ _ | refine blk_drew ?_ | refine blk_alloc ?_ _)); exact BK113.out)) : gb113 ≠ gb114)); have n14_ := Aside0.mk ((by rw [hg]; exact Nat.ne_of_gt (blk_lt (g := gb113) (o := .cells #[.slice none 0 0] 24 (0, 0)) (by (with_reducible repeat (first | refine blk_drewN ?_ _ | refine blk_drew ?_ | refine blk_alloc ?_ _)); exact BK113.out)) : gb114 ≠ gb113)); clear HO103; clear HO110; clear BK106; clear BK107; clear BK113; clear HB; have HO103 := n0_; have HO110 := n1_; have BK106 := n2_; have BK107 := n3_; have BK113 := n4_; have HB := n5_; have BK114 := n6_; have GW114 := n7_; have GE114 := n8_; have NB106_114 := n9_; have NB114_106 := n10_; have NB107_114 := n11_; have NB114_107 := n12_; have NB113_114 := n13_; have NB114_113 := n14_; clear n0_ n1_ n2_ n3_ n4_ n5_ n6_ n7_ n8_ n9_ n10_ n11_ n12_ n13_ n14_; clear hb hbox hg; obtain ⟨Ao45, co45, eo45⟩ := Kd.V_slice HO110.out; subst eo45; have hnb46 := NB113_106.out; have hnc46 := NB106_113.out; have hnb47 := NB113_107.out; have hnc47 := NB107_113.out; have hnb48 := NB113_114.out; have hnc48 := NB114_113.out; have hcz49_0 : w44.cell? ⟨gb113, 0, none⟩ = some (.slice none 0 0) := (blk_cell BK113.out 0).trans rfl; have hfz49_0 := blk_frozen BK113.out 0) | ((with_reducible refine gate_store (t := 24) (p := 3) rfl ?_); refine store_event (t := 24) (p := 3) (v := ?vo_w50) (w1 := (w44.setCell ⟨gb113, 0, none⟩ (.slice Ao45 t108.length co45))) ?hg ?ho ?hn ?hr ?_; (case ho => rfl); (case hg => rfl); (case hn => rfl); (case hr => first | (go_simp; done) | (go_simp; rfl)); intro w50 hw; have n0_ : Aside0 (Kd.V k29 29 w50 w.heap.size (fun k_ => k_ ≠ gb106 ∧ k_ ≠ gb107 ∧ k_ ≠ gb113 ∧ k_ ≠ gb114) (.slice Ao38 t101.length co38) t101) := ⟨(by rw [hw]; exact (by (with_reducible repeat (first | apply Kd.V_alloc | apply Kd.V_drewN | apply Kd.V_drew)); exact Kd.V_mono (Kd.V_far (p := ⟨gb113, 0, none⟩) (Kd.V_mono HO103.out (fun k_ hk => (⟨hk, hk.1.2⟩ : _ ∧ k_ ≠ gb113))) (fun _ hk => hk.2) (.slice Ao45 t108.length co45)) (fun _ hk => ⟨hk.1.1.1.1.2, ⟨hk.1.1.1.2, ⟨hk.1.1.2, hk.1.2⟩⟩⟩)))⟩; have n1_ : Aside0 (Kd.V k29 29 w50 w.heap.size (fun k_ => k_ ≠ gb106 ∧ k_ ≠ gb107 ∧ k_ ≠ gb113 ∧ k_ ≠ gb114) (.slice Ao45 t108.length co45) t108) := ⟨(by rw [hw]; exact (by (with_reducible repeat (first | apply Kd.V_alloc | apply Kd.V_drewN | apply Kd.V_drew)); exact Kd.V_mono (Kd.V_far (p := ⟨gb113, 0, none⟩) (Kd.V_mono HO110.out (fun k_ hk => (⟨hk, hk.1.2⟩ : _ ∧ k_ ≠ gb113))) (fun _ hk => hk.2) (.slice Ao45 t108.length co45)) (fun _ hk => ⟨hk.1.1.1.1, ⟨hk.1.1.1.2, ⟨hk.1.1.2, hk.1.2⟩⟩⟩)))⟩; have n2_ : Aside0 (w50.heap[gb106]? = some (.cells #[.slice Ao38 t101.length co38] 24 (0, 0))) := ⟨(by rw [hw]; exact (by (with_reducible repeat (first | refine blk_drewN ?_ _ | refine blk_drew ?_ | refine blk_alloc ?_ _)); refine blk_far ?_ NB106_113.out _; (with_reducible repeat (first | refine blk_drewN ?_ _ | refine blk_drew ?_ | refine blk_alloc ?_ _)); exact BK106.out))⟩; have n3_ : Aside0 (w50.heap[gb107]? = some (.cells #[.int .i64 t104, .int .i64 t105] 48 (0, 0))) := ⟨(by rw [hw]; exact (by (with_reducible repeat (first | refine blk_drewN ?_ _ | refine blk_drew ?_ | refine blk_alloc ?_ _)); refine blk_far ?_ NB107_113.out _; (with_reducible repeat (first | refine blk_drewN ?_ _ | refine blk_drew ?_ | refine blk_alloc ?_ _)); exact BK107.out))⟩; have n4_ : Aside0 (w50.heap[gb113]? = some (.cells #[.slice Ao45 t108.length co45] 24 (0, 0))) := ⟨(by rw [hw]; exact (by (with_reducible repeat (first | refine blk_drewN ?_ _ | refine blk_drew ?_ | refine blk_alloc ?_ _)); refine blk_put (cs := #[.slice none 0 0]) ?_ 0 _ rfl; (with_reducible repeat (first | refine blk_drewN ?_ _ | refine blk_drew ?_ | refine blk_alloc ?_ _)); exact BK113.out))⟩; have n5_ : Aside0 (w50.heap[gb114]? = some (.cells #[.int .i64 0, .int .i64 0] 48 (0, 0))) := ⟨(by rw [hw]; exact (by (with_reducible repeat (first | refine blk_drewN ?_ _ | refine blk_drew ?_ | refine blk_alloc ?_ _)); refine blk_far ?_ NB114_113.out _; (with_reducible repeat (first | refine blk_drewN ?_ _ | refine blk_drew ?_ | refine blk_alloc ?_ _)); exact BK114.out))⟩; have n6_ : Aside0 (Below w.heap.size w w50) := ⟨(by rw [hw]; exact (by repeat (first | (with_reducible first | exact HB.out | apply below_alloc | apply pw_below_drewN | apply below_drew1 | refine below_set ?_ GE106.out | refine below_set ?_ GE107.out | refine below_set ?_ GE113.out | refine below_set ?_ GE114.out) | exact HB.out)))⟩; clear hw; clear HO103; clear HO110; clear BK106; clear BK107; clear BK113; clear BK114; clear HB; have HO103 := n0_; have HO110 := n1_; have BK106 := n2_; have BK107 := n3_; have BK113 := n4_; have BK114 := n5_; have HB := n6_; clear n0_ n1_ n2_ n3_ n4_ n5_ n6_; have hnb51 := NB114_106.out; have hnc51 := NB106_114.out; have hnb52 := NB114_107.out; have hnc52 := NB107_114.out; have hcz53_0 : w50.cell? ⟨gb114, 0, none⟩ = some (.int .i64 0) := (blk_cell BK114.out 0).trans rfl; have hcz53_1 : w50.cell? ⟨gb114, 1, none⟩ = some (.int .i64 0) := (blk_cell BK114.out 1).trans rfl; have hfz53_0 := blk_frozen BK114.out 0; have hfz53_1 := blk_frozen BK114.out 1) | ((with_reducible refine gate_store (t := 48) (p := 4) rfl ?_); refine store_event (t := 48) (p := 4) (v := ?vo_w54) (w1 := ((w50.setCell ⟨gb114, 0, none⟩ (.int .i64 t111)).setCell ⟨gb114, 1, none⟩ (.int .i64 t112))) ?hg ?ho ?hn ?hr ?_; (case ho => rfl); (case hg => rfl); (case hn => rfl); (case hr => first | (go_simp; done) | (go_simp; rfl)); intro w54 hw; have n0_ : Aside0 (Kd.V k29 29 w54 w.heap.size (fun k_ => k_ ≠ gb106 ∧ k_ ≠ gb107 ∧ k_ ≠ gb113 ∧ k_ ≠ gb114) (.slice Ao38 t101.length co38) t101) := ⟨(by rw [hw]; exact (by (with_reducible repeat (first | apply Kd.V_alloc | apply Kd.V_drewN | apply Kd.V_drew)); exact Kd.V_mono (Kd.V_far (p := ⟨gb114, 1, none⟩) (Kd.V_far (p := ⟨gb114, 0, none⟩) (Kd.V_mono HO103.out (fun k_ hk => (⟨hk, hk.2.2.2⟩ : _ ∧ k_ ≠ gb114))) (fun _ hk => hk.2) (.int .i64 t111)) (fun _ hk => hk.2) (.int .i64 t112)) (fun _ hk => ⟨hk.1.1, ⟨hk.1.2.1, ⟨hk.1.2.2.1, hk.1.2.2.2⟩⟩⟩)))⟩; have n1_ : Aside0 (Kd.V k29 29 w54 w.heap.size (fun k_ => k_ ≠ gb106 ∧ k_ ≠ gb107 ∧ k_ ≠ gb113 ∧ k_ ≠ gb114) (.slice Ao45 t108.length co45) t108) := ⟨(by rw [hw]; exact (by (with_reducible repeat (first | apply Kd.V_alloc | apply Kd.V_drewN | apply Kd.V_drew)); exact Kd.V_mono (Kd.V_far (p := ⟨gb114, 1, none⟩) (Kd.V_far (p := ⟨gb114, 0, none⟩) (Kd.V_mono HO110.out (fun k_ hk => (⟨hk, hk.2.2.2⟩ : _ ∧ k_ ≠ gb114))) (fun _ hk => hk.2) (.int .i64 t111)) (fun _ hk => hk.2) (.int .i64 t112)) (fun _ hk => ⟨hk.1.1, ⟨hk.1.2.1, ⟨hk.1.2.2.1, hk.1.2.2.2⟩⟩⟩)))⟩; have n2_ : Aside0 (w54.heap[gb106]? = some (.cells #[.slice Ao38 t101.length co38] 24 (0, 0))) := ⟨(by rw [hw]; exact (by (with_reducible repeat (first | refine blk_drewN ?_ _ | refine blk_drew ?_ | refine blk_alloc ?_ _)); refine blk_far ?_ NB106_114.out _; (with_reducible repeat (first | refine blk_drewN ?_ _ | refine blk_drew ?_ | refine blk_alloc ?_ _)); refine blk_far ?_ NB106_114.out _; (with_reducible repeat (first | refine blk_drewN ?_ _ | refine blk_drew ?_ | refine blk_alloc ?_ _)); exact BK106.out))⟩; have n3_ : Aside0 (w54.heap[gb107]? = some (.cells #[.int .i64 t104, .int .i64 t105] 48 (0, 0))) := ⟨(by rw [hw]; exact (by (with_reducible repeat (first | refine blk_drewN ?_ _ | refine blk_drew ?_ | refine blk_alloc ?_ _)); refine blk_far ?_ NB107_114.out _; (with_reducible repeat (first | refine blk_drewN ?_ _ | refine blk_drew ?_ | refine blk_alloc ?_ _)); refine blk_far ?_ NB107_114.out _; (with_reducible repeat (first | refine blk_drewN ?_ _ | refine blk_drew ?_ | refine blk_alloc ?_ _)); exact BK107.out))⟩; have n4_ : Aside0 (w54.heap[gb113]? = some (.cells #[.slice Ao45 t108.length co45] 24 (0, 0))) := ⟨(by rw [hw]; exact (by (with_reducible repeat (first | refine blk_drewN ?_ _ | refine blk_drew ?_ | refine blk_alloc ?_ _)); refine blk_far ?_ NB113_114.out _; (with_reducible repeat (first | refine blk_drewN ?_ _ | refine blk_drew ?_ | refine blk_alloc ?_ _)); refine blk_far ?_ NB113_114.out _; (with_reducible repeat (first | refine blk_drewN ?_ _ | refine blk_drew ?_ | refine blk_alloc ?_ _)); exact BK113.out))⟩; have n5_ : Aside0 (w54.heap[gb114]? = some (.cells #[.int .i64 t111, .int .i64 t112] 48 (0, 0))) := ⟨(by rw [hw]; exact (by (with_reducible repeat (first | refine blk_drewN ?_ _ | refine blk_drew ?_ | refine blk_alloc ?_ _)); refine blk_put (cs := #[.int .i64 t111, .int .i64 0]) ?_ 1 _ rfl; (with_reducible repeat (first | refine blk_drewN ?_ _ | refine blk_drew ?_ | refine blk_alloc ?_ _)); refine blk_put (cs := #[.int .i64 0, .int .i64 0]) ?_ 0 _ rfl; (with_reducible repeat (first | refine blk_drewN ?_ _ | refine blk_drew ?_ | refine blk_alloc ?_ _)); exact BK114.out))⟩; have n6_ : Aside0 (Below w.heap.size w w54) := ⟨(by rw [hw]; exact (by repeat (first | (with_reducible first | exact HB.out | apply below_alloc | apply pw_below_drewN | apply below_drew1 | refine below_set ?_ GE106.out | refine below_set ?_ GE107.out | refine below_set ?_ GE113.out | refine below_set ?_ GE114.out) | exact HB.out)))⟩; clear hw; clear HO103; clear HO110; clear BK106; clear BK107; clear BK113; clear BK114; clear HB; have HO103 := n0_; have HO110 := n1_; have BK106 := n2_; have BK107 := n3_; have BK113 := n4_; have BK114 := n5_; have HB := n6_; clear n0_ n1_ n2_ n3_ n4_ n5_ n6_; have hcz55_0 : w54.cell? ⟨gb107, 0, none⟩ = some (.int .i64 t104) := (blk_cell BK107.out 0).trans rfl; have hcz55_1 : w54.cell? ⟨gb107, 1, none⟩ = some (.int .i64 t105) := (blk_cell BK107.out 1).trans rfl; have hfz55_0 := blk_frozen BK107.out 0; have hfz55_1 := blk_frozen BK107.out 1; have hcz56_0 : w54.cell? ⟨gb106, 0, none⟩ = some (.slice Ao38 t101.length co38) := (blk_cell BK106.out 0).trans rfl; have hfz56_0 := blk_frozen BK106.out 0; have p115 : 0 ≤ (0 : Int) := (by omega); have q115 : 0 < (t101.length : Int) := of_decide_eq_true (by first | (with_reducible assumption) | assumption); obtain ⟨ad115, A115_6, c115_6, e115, hx115_0, hx115_1, hx115_2, hx115_3, hx115_4, hx115_5, hx115_6, hl115_6, hi115_6⟩ := at_T29 (Kd.V_reads' HO103.out).2.2 0 p115 q115; (try rw [← Nbq9.out] at hx115_4); (try rw [← Nbq33.out] at hx115_4); (try rw [← Nbq9.out] at hx115_5); (try rw [← Nbq33.out] at hx115_5); cases e115; obtain ⟨ce115, hce115, hMe115, hcc115⟩ := Kd.V_get HO103.out z29 0 p115 (by first | exact q115 | exact of_decide_eq_true (by first | (with_reducible assumption) | assumption) | (have e_ := (Kd.V_reads' HO103.out).1; omega)); obtain ⟨ua115_6, uc115_6, rfl, ul115_6, ge115_6⟩ := k29_openF hMe115; have hv115_6 := hcc115 6 _ rfl; rw [add_field _ _ 6 (by omega)] at hv115_6; replace hv115_6 := Option.some.inj (hv115_6.symm.trans hx115_6); injection hv115_6 with hva_ hvn_ hvc_; rw [hva_] at ge115_6; rw [hvc_] at ul115_6; have HL115_6 := Aside0.mk (show Kd.V Kd.string 9 _ w.heap.size _ _ ((rd_T29 t101 0).f6) from Kd.V_mk ul115_6 ge115_6); clear hva_ hvn_ hvc_ ge115_6 ul115_6; clear hcc115 hce115; have qi115 : (0 < t101.length) = True := eq_true (by omega); (try rw [show ((0 : Int)).toNat = 0 from rfl] at hx115_0); (try rw [show 0 * 7 = 0 from rfl] at hx115_0); (try rw [Addr.add_zero'] at hx115_0); (try rw [show ((0 : Int)).toNat = 0 from rfl] at hx115_1); (try rw [show 0 * 7 = 0 from rfl] at hx115_1); (try rw [Addr.add_zero'] at hx115_1); (try rw [show ((0 : Int)).toNat = 0 from rfl] at hx115_2); (try rw [show 0 * 7 = 0 from rfl] at hx115_2); (try rw [Addr.add_zero'] at hx115_2); (try rw [show ((0 : Int)).toNat = 0 from rfl] at hx115_3); (try rw [show 0 * 7 = 0 from rfl] at hx115_3); (try rw [Addr.add_zero'] at hx115_3); (try rw [show ((0 : Int)).toNat = 0 from rfl] at hx115_4); (try rw [show 0 * 7 = 0 from rfl] at hx115_4); (try rw [Addr.add_zero'] at hx115_4); (try rw [show ((0 : Int)).toNat = 0 from rfl] at hx115_5); (try rw [show 0 * 7 = 0 from rfl] at hx115_5); (try rw [Addr.add_zero'] at hx115_5); (try rw [show ((0 : Int)).toNat = 0 from rfl] at hx115_6); (try rw [show 0 * 7 = 0 from rfl] at hx115_6); (try rw [Addr.add_zero'] at hx115_6); have HR115_6 := Aside0.mk hi115_6; have HC115_6 := Aside0.mk hl115_6; clear hi115_6 hl115_6; replace p115 := eq_true p115; replace q115 := eq_true q115; have p116 : 0 ≤ (0 : Int) := (by omega); have q116 : 0 < (t101.length : Int) := of_decide_eq_true (by first | (with_reducible assumption) | assumption); obtain ⟨ad116, A116_6, c116_6, e116, hx116_0, hx116_1, hx116_2, hx116_3, hx116_4, hx116_5, hx116_6, hl116_6, hi116_6⟩ := at_T29 (Kd.V_reads' HO103.out).2.2 0 p116 q116; (try rw [← Nbq9.out] at hx116_4); (try rw [← Nbq33.out] at hx116_4); (try rw [← Nbq9.out] at hx116_5); (try rw [← Nbq33.out] at hx116_5); obtain rfl : ad115 = ad116 := (by injection e116); obtain ⟨ce116, hce116, hMe116, hcc116⟩ := Kd.V_get HO103.out z29 0 p116 (by first | exact q116 | exact of_decide_eq_true (by first | (with_reducible assumption) | assumption) | (have e_ := (Kd.V_reads' HO103.out).1; omega)); obtain ⟨ua116_6, uc116_6, rfl, ul116_6, ge116_6⟩ := k29_openF hMe116; have hv116_6 := hcc116 6 _ rfl; rw [add_field _ _ 6 (by omega)] at hv116_6; replace hv116_6 := Option.some.inj (hv116_6.symm.trans hx116_6); injection hv116_6 with hva_ hvn_ hvc_; rw [hva_] at ge116_6; rw [hvc_] at ul116_6; have HL116_6 := Aside0.mk (show Kd.V Kd.string 9 _ w.heap.size _ _ ((rd_T29 t101 0).f6) from Kd.V_mk ul116_6 ge116_6); clear hva_ hvn_ hvc_ ge116_6 ul116_6; clear hcc116 hce116; have qi116 : (0 < t101.length) = True := eq_true (by omega); (try rw [show ((0 : Int)).toNat = 0 from rfl] at hx116_0); (try rw [show 0 * 7 = 0 from rfl] at hx116_0); (try rw [Addr.add_zero'] at hx116_0); (try rw [show ((0 : Int)).toNat = 0 from rfl] at hx116_1); (try rw [show 0 * 7 = 0 from rfl] at hx116_1); (try rw [Addr.add_zero'] at hx116_1); (try rw [show ((0 : Int)).toNat = 0 from rfl] at hx116_2); (try rw [show 0 * 7 = 0 from rfl] at hx116_2); (try rw [Addr.add_zero'] at hx116_2); (try rw [show ((0 : Int)).toNat = 0 from rfl] at hx116_3); (try rw [show 0 * 7 = 0 from rfl] at hx116_3); (try rw [Addr.add_zero'] at hx116_3); (try rw [show ((0 : Int)).toNat = 0 from rfl] at hx116_4); (try rw [show 0 * 7 = 0 from rfl] at hx116_4); (try rw [Addr.add_zero'] at hx116_4); (try rw [show ((0 : Int)).toNat = 0 from rfl] at hx116_5); (try rw [show 0 * 7 = 0 from rfl] at hx116_5); (try rw [Addr.add_zero'] at hx116_5); (try rw [show ((0 : Int)).toNat = 0 from rfl] at hx116_6); (try rw [show 0 * 7 = 0 from rfl] at hx116_6); (try rw [Addr.add_zero'] at hx116_6); have HR116_6 := Aside0.mk hi116_6; have HC116_6 := Aside0.mk hl116_6; clear hi116_6 hl116_6; replace p116 := eq_true p116; replace q116 := eq_true q116; have ea_ := Option.some.inj (hx115_6.symm.trans hx116_6); injection ea_ with ea_ en_ ec_; subst ea_; subst ec_; clear en_; have p117 : 0 ≤ (0 : Int) := (by omega); have q117 : 0 < (t101.length : Int) := of_decide_eq_true (by first | (with_reducible assumption) | assumption); obtain ⟨ad117, A117_6, c117_6, e117, hx117_0, hx117_1, hx117_2, hx117_3, hx117_4, hx117_5, hx117_6, hl117_6, hi117_6⟩ := at_T29 (Kd.V_reads' HO103.out).2.2 0 p117 q117; (try rw [← Nbq9.out] at hx117_4); (try rw [← Nbq33.out] at hx117_4); (try rw [← Nbq9.out] at hx117_5); (try rw [← Nbq33.out] at hx117_5); obtain rfl : ad115 = ad117 := (by injection e117); obtain ⟨ce117, hce117, hMe117, hcc117⟩ := Kd.V_get HO103.out z29 0 p117 (by first | exact q117 | exact of_decide_eq_true (by first | (with_reducible assumption) | assumption) | (have e_ := (Kd.V_reads' HO103.out).1; omega)); obtain ⟨ua117_6, uc117_6, rfl, ul117_6, ge117_6⟩ := k29_openF hMe117; have hv117_6 := hcc117 6 _ rfl; rw [add_field _ _ 6 (by omega)] at hv117_6; replace hv117_6 := Option.some.inj (hv117_6.symm.trans hx117_6); injection hv117_6 with hva_ hvn_ hvc_; rw [hva_] at ge117_6; rw [hvc_] at ul117_6; have HL117_6 := Aside0.mk (show Kd.V Kd.string 9 _ w.heap.size _ _ ((rd_T29 t101 0).f6) from Kd.V_mk ul117_6 ge117_6); clear hva_ hvn_ hvc_ ge117_6 ul117_6; clear hcc117 hce117; have qi117 : (0 < t101.length) = True := eq_true (by omega); (try rw [show ((0 : Int)).toNat = 0 from rfl] at hx117_0); (try rw [show 0 * 7 = 0 from rfl] at hx117_0); (try rw [Addr.add_zero'] at hx117_0); (try rw [show ((0 : Int)).toNat = 0 from rfl] at hx117_1); (try rw [show 0 * 7 = 0 from rfl] at hx117_1); (try rw [Addr.add_zero'] at hx117_1); (try rw [show ((0 : Int)).toNat = 0 from rfl] at hx117_2); (try rw [show 0 * 7 = 0 from rfl] at hx117_2); (try rw [Addr.add_zero'] at hx117_2); (try rw [show ((0 : Int)).toNat = 0 from rfl] at hx117_3); (try rw [show 0 * 7 = 0 from rfl] at hx117_3); (try rw [Addr.add_zero'] at hx117_3); (try rw [show ((0 : Int)).toNat = 0 from rfl] at hx117_4); (try rw [show 0 * 7 = 0 from rfl] at hx117_4); (try rw [Addr.add_zero'] at hx117_4); (try rw [show ((0 : Int)).toNat = 0 from rfl] at hx117_5); (try rw [show 0 * 7 = 0 from rfl] at hx117_5); (try rw [Addr.add_zero'] at hx117_5); (try rw [show ((0 : Int)).toNat = 0 from rfl] at hx117_6); (try rw [show 0 * 7 = 0 from rfl] at hx117_6); (try rw [Addr.add_zero'] at hx117_6); have HR117_6 := Aside0.mk hi117_6; have HC117_6 := Aside0.mk hl117_6; clear hi117_6 hl117_6; replace p117 := eq_true p117; replace q117 := eq_true q117; have ea_ := Option.some.inj (hx115_6.symm.trans hx117_6); injection ea_ with ea_ en_ ec_; subst ea_; subst ec_; clear en_; have p118 : 0 ≤ (0 : Int) := (by omega); have q118 : 0 < (t101.length : Int) := of_decide_eq_true (by first | (with_reducible assumption) | assumption); obtain ⟨ad118, A118_6, c118_6, e118, hx118_0, hx118_1, hx118_2, hx118_3, hx118_4, hx118_5, hx118_6, hl118_6, hi118_6⟩ := at_T29 (Kd.V_reads' HO103.out).2.2 0 p118 q118; (try rw [← Nbq9.out] at hx118_4); (try rw [← Nbq33.out] at hx118_4); (try rw [← Nbq9.out] at hx118_5); (try rw [← Nbq33.out] at hx118_5); obtain rfl : ad115 = ad118 := (by injection e118); obtain ⟨ce118, hce118, hMe118, hcc118⟩ := Kd.V_get HO103.out z29 0 p118 (by first | exact q118 | exact of_decide_eq_true (by first | (with_reducible assumption) | assumption) | (have e_ := (Kd.V_reads' HO103.out).1; omega)); obtain ⟨ua118_6, uc118_6, rfl, ul118_6, ge118_6⟩ := k29_openF hMe118; have hv118_6 := hcc118 6 _ rfl; rw [add_field _ _ 6 (by omega)] at hv118_6; replace hv118_6 := Option.some.inj (hv118_6.symm.trans hx118_6); injection hv118_6 with hva_ hvn_ hvc_; rw [hva_] at ge118_6; rw [hvc_] at ul118_6; have HL118_6 := Aside0.mk (show Kd.V Kd.string 9 _ w.heap.size _ _ ((rd_T29 t101 0).f6) from Kd.V_mk ul118_6 ge118_6); clear hva_ hvn_ hvc_ ge118_6 ul118_6; clear hcc118 hce118; have qi118 : (0 < t101.length) = True := eq_true (by omega); (try rw [show ((0 : Int)).toNat = 0 from rfl] at hx118_0); (try rw [show 0 * 7 = 0 from rfl] at hx118_0); (try rw [Addr.add_zero'] at hx118_0); (try rw [show ((0 : Int)).toNat = 0 from rfl] at hx118_1); (try rw [show 0 * 7 = 0 from rfl] at hx118_1); (try rw [Addr.add_zero'] at hx118_1); (try rw [show ((0 : Int)).toNat = 0 from rfl] at hx118_2); (try rw [show 0 * 7 = 0 from rfl] at hx118_2); (try rw [Addr.add_zero'] at hx118_2); (try rw [show ((0 : Int)).toNat = 0 from rfl] at hx118_3); (try rw [show 0 * 7 = 0 from rfl] at hx118_3); (try rw [Addr.add_zero'] at hx118_3); (try rw [show ((0 : Int)).toNat = 0 from rfl] at hx118_4); (try rw [show 0 * 7 = 0 from rfl] at hx118_4); (try rw [Addr.add_zero'] at hx118_4); (try rw [show ((0 : Int)).toNat = 0 from rfl] at hx118_5); (try rw [show 0 * 7 = 0 from rfl] at hx118_5); (try rw [Addr.add_zero'] at hx118_5); (try rw [show ((0 : Int)).toNat = 0 from rfl] at hx118_6); (try rw [show 0 * 7 = 0 from rfl] at hx118_6); (try rw [Addr.add_zero'] at hx118_6); have HR118_6 := Aside0.mk hi118_6; have HC118_6 := Aside0.mk hl118_6; clear hi118_6 hl118_6; replace p118 := eq_true p118; replace q118 := eq_true q118; have ea_ := Option.some.inj (hx115_6.symm.trans hx118_6); injection ea_ with ea_ en_ ec_; subst ea_; subst ec_; clear en_; have p119 : 0 ≤ (0 : Int) := (by omega); have q119 : 0 < (t101.length : Int) := of_decide_eq_true (by first | (with_reducible assumption) | assumption); obtain ⟨ad119, A119_6, c119_6, e119, hx119_0, hx119_1, hx119_2, hx119_3, hx119_4, hx119_5, hx119_6, hl119_6, hi119_6⟩ := at_T29 (Kd.V_reads' HO103.out).2.2 0 p119 q119; (try rw [← Nbq9.out] at hx119_4); (try rw [← Nbq33.out] at hx119_4); (try rw [← Nbq9.out] at hx119_5); (try rw [← Nbq33.out] at hx119_5); obtain rfl : ad115 = ad119 := (by injection e119); obtain ⟨ce119, hce119, hMe119, hcc119⟩ := Kd.V_get HO103.out z29 0 p119 (by first | exact q119 | exact of_decide_eq_true (by first | (with_reducible assumption) | assumption) | (have e_ := (Kd.V_reads' HO103.out).1; omega)); obtain ⟨ua119_6, uc119_6, rfl, ul119_6, ge119_6⟩ := k29_openF hMe119; have hv119_6 := hcc119 6 _ rfl; rw [add_field _ _ 6 (by omega)] at hv119_6; replace hv119_6 := Option.some.inj (hv119_6.symm.trans hx119_6); injection hv119_6 with hva_ hvn_ hvc_; rw [hva_] at ge119_6; rw [hvc_] at ul119_6; have HL119_6 := Aside0.mk (show Kd.V Kd.string 9 _ w.heap.size _ _ ((rd_T29 t101 0).f6) from Kd.V_mk ul119_6 ge119_6); clear hva_ hvn_ hvc_ ge119_6 ul119_6; clear hcc119 hce119; have qi119 : (0 < t101.length) = True := eq_true (by omega); (try rw [show ((0 : Int)).toNat = 0 from rfl] at hx119_0); (try rw [show 0 * 7 = 0 from rfl] at hx119_0); (try rw [Addr.add_zero'] at hx119_0); (try rw [show ((0 : Int)).toNat = 0 from rfl] at hx119_1); (try rw [show 0 * 7 = 0 from rfl] at hx119_1); (try rw [Addr.add_zero'] at hx119_1); (try rw [show ((0 : Int)).toNat = 0 from rfl] at hx119_2); (try rw [show 0 * 7 = 0 from rfl] at hx119_2); (try rw [Addr.add_zero'] at hx119_2); (try rw [show ((0 : Int)).toNat = 0 from rfl] at hx119_3); (try rw [show 0 * 7 = 0 from rfl] at hx119_3); (try rw [Addr.add_zero'] at hx119_3); (try rw [show ((0 : Int)).toNat = 0 from rfl] at hx119_4); (try rw [show 0 * 7 = 0 from rfl] at hx119_4); (try rw [Addr.add_zero'] at hx119_4); (try rw [show ((0 : Int)).toNat = 0 from rfl] at hx119_5); (try rw [show 0 * 7 = 0 from rfl] at hx119_5); (try rw [Addr.add_zero'] at hx119_5); (try rw [show ((0 : Int)).toNat = 0 from rfl] at hx119_6); (try rw [show 0 * 7 = 0 from rfl] at hx119_6); (try rw [Addr.add_zero'] at hx119_6); have HR119_6 := Aside0.mk hi119_6; have HC119_6 := Aside0.mk hl119_6; clear hi119_6 hl119_6; replace p119 := eq_true p119; replace q119 := eq_true q119; have ea_ := Option.some.inj (hx115_6.symm.trans hx119_6); injection ea_ with ea_ en_ ec_; subst ea_; subst ec_; clear en_; have hcz57_0 : w54.cell? ⟨gb114, 0, none⟩ = some (.int .i64 t111) := (blk_cell BK114.out 0).trans rfl; have hcz57_1 : w54.cell? ⟨gb114, 1, none⟩ = some (.int .i64 t112) := (blk_cell BK114.out 1).trans rfl; have hfz57_0 := blk_frozen BK114.out 0; have hfz57_1 := blk_frozen BK114.out 1))
         go_ret
         exact ⟨by first | rfl | (simp [errW_none, errW_some] <;> rfl) | (simp [*, errW_none, errW_some] <;> rfl) | (simp only [ne_nil_bool]; rfl), by repeat (first | (with_reducible first | exact HB.out | apply below_alloc | apply pw_below_drewN | apply below_drew1 | refine below_set ?_ GE106.out | refine below_set ?_ GE107.out | refine below_set ?_ GE113.out | refine below_set ?_ GE114.out) | exact HB.out)⟩
        ·
         replace c34 := Bool.eq_false_iff.mpr c34
         subst c34
         have H1 : (some false) = some r := by rw [if_neg (show ¬ (false = true) by decide)] at H; exact H
         exact absurd (Option.some.inj H1) (by rw [hT.out]; decide)
      ·
       rw [if_neg c8] at H
       exact absurd (Option.some.inj H) (by rw [hT.out]; decide)
     ·
      rw [if_neg c7] at H
      exact absurd (Option.some.inj H) (by rw [hT.out]; decide)
    ·
     rw [if_neg c6] at H
     exact absurd (Option.some.inj H) (by rw [hT.out]; decide)
   ·
    rw [if_neg c5] at H
    exact absurd H (by simp)
  ·
   rw [if_neg c4] at H
   exact absurd (Option.some.inj H) (by rw [hT.out]; decide)
 ·
  rw [if_neg c3] at H
  exact absurd (Option.some.inj H) (by rw [hT.out]; decide)
theorem pantrylaw09_anchor.yes : pantrylaw09_anchor.f = some true := by kernel_rfl
theorem pantrylaw09_anchor.calls (r : Bool) (w : World) (hG : GL w) (h : pantrylaw09_anchor.f = some r) :
    Calls Tryd.prog 8 #[] w fun e w' => e = .returned (.bool r) ∧ Below w.heap.size w w' :=
  pantrylaw09_anchor.callsT r ⟨Option.some.inj (h.symm.trans pantrylaw09_anchor.yes)⟩ w hG h
end Go.Proofs.YtcoaajkhfgakgaaDoor.Pr
end
