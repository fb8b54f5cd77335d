/- The document's Table: Of: the walk. -/
import Derived.Test.YtbpejjgjjjmlkaaR18
set_option linter.unusedVariables false
set_option linter.unusedSimpArgs false
namespace Go.Proofs.Ytbpejjgjjjmlkaa
open Go.RowKit Go.Maps

theorem ofR_len (m : List Rc) (s : Nat) : (ofR m s).length ≤ m.length := by unfold ofR; rw [List.length_map]; exact List.length_filter_le _ _
set_option maxRecDepth 100000 in
set_option maxHeartbeats 2000000 in
theorem rof_ok {w : World} {R : Nat} {vl : Value} {m : List Rc} (h : RTab w R vl m) (hl : m.length ≤ 100000) (hnd : m.Nodup) (s : Nat) :
    Calls Try.prog 19 #[.pointer (some ⟨R, 0, none⟩), .int .u32 (s : Int)] w fun e w' => ∃ v', e = .returned v' ∧ JInv (sortI (ofR m s)) v' w w' := by
  have HT := Lib.hid h
  have HND := Lib.hid hnd
  obtain ⟨a1, c1, hvl⟩ := h.row.len
  rw [List.length_map] at hvl
  obtain ⟨n, hn⟩ : ∃ n, n = m.length := ⟨_, rfl⟩
  rw [← hn] at hvl hl
  subst hvl
  have HN := Lib.hid hn
  clear h hn hnd
  go_enter Try.func19, Try.ntmps19
  go_wp2_with fail
  go_loopw [5, 6] (fun t5 t6 wr => ∃ (j : Nat), j ≤ n ∧ t6 = .int .i64 (j : Int) ∧ (∃ a5 n5 c5, t5 = .slice a5 n5 c5) ∧ Hid (JInv (ofR (m.take j) s) t5 w wr)) (fun _ t6 _ => n - (intOf t6).toNat)
  case atStart => exact ⟨0, by omega, rfl, ⟨none, 0, 0, rfl⟩, Lib.hid (JInv.start w)⟩
  case round =>
    obtain ⟨j, hj, rfl, ⟨a5, n5, c5, rfl⟩, HI⟩ := hrel
    have HTr := Lib.hid (HT.out.kept0 (Touch.of_below HI.out.grow))
    have c0 := HTr.out.cell
    by_cases hlt : j < n
    · have hjm : j < m.length := by rw [← HN.out]; exact hlt
      obtain ⟨r, hr⟩ : ∃ r, m[j]? = some r := ⟨m[j], by simp [hjm]⟩
      obtain ⟨gm, cm, hv, _⟩ := HTr.out.row.open_ (by rw [List.length_map]; omega)
      rw [List.length_map, ← HN.out] at hv
      cases hv
      obtain ⟨x0, x1⟩ := HTr.out.row.cells2 hr
      have HST := Lib.hid (ofR_step hr s)
      obtain ⟨rb, rs⟩ := r
      dsimp only at x0 x1
      have b0 : (0 : Int) ≤ (j : Int) := by omega
      have b1 : (j : Int) < (n : Int) := by omega
      clear hr hjm
      by_cases hre : rs = s
      · have eg : ((rs : Int) == (s : Int)) = true := by simp; omega
        go_wp2_with (first | (at_builtin; refine wpList_append_ints rfl _ _ rfl (.slice a5 n5 c5) (ofR (m.take j) s) rfl (Row.kept HI.out.row (Touch.alloc [] _ _) (by simp)) _ 1 1 [rb] rfl rfl (fun h => by cases h) (one_cell _ _ _) (by have := ofR_len (m.take j) s; have := List.length_take_le j m; omega) ?_; intro v' wa happ htch))
        have HI2 := Lib.hid (show JInv (ofR (m.take (j + 1)) s) v' w wa by rw [HST.out, if_pos hre]; exact HI.out.app (Touch.alloc [] _ _) happ htch)
        clear happ htch
        go_roundw
        case rel =>
          obtain ⟨aa, cc, hh⟩ := HI2.out.row.len
          exact ⟨j + 1, by omega, by go_num, ⟨aa, _, cc, hh⟩, HI2⟩
        case measure => simp [intOf]; omega
      · have eg : ((rs : Int) == (s : Int)) = false := by simp; omega
        have HI2 := Lib.hid (show JInv (ofR (m.take (j + 1)) s) (.slice a5 n5 c5) w wr by rw [HST.out, if_neg hre]; exact HI.out)
        go_wp2_with fail
        go_roundw
        case rel => exact ⟨j + 1, by omega, by go_num, ⟨a5, n5, c5, rfl⟩, HI2⟩
        case measure => simp [intOf]; omega
    · obtain rfl : j = n := by omega
      have HF := Lib.hid (show JInv (ofR m s) (.slice a5 n5 c5) w wr by have := HI.out; rw [HN.out, List.take_length] at this; exact this)
      clear HI
      go_wp2_with fail
      refine (sorted_ok HF.out.row (by have := ofR_len m s; have := HN.out; omega) (ofR_nodup HND.out s)).mono ?_
      intro e w2 hpost
      obtain ⟨v2, he, hI2⟩ := hpost
      subst he
      have HI2 := Lib.hid (hI2.below HF.out.grow)
      clear hI2
      go_wp2_with fail
      go_ret
      exact ⟨_, rfl, HI2.out⟩
#print axioms rof_ok
end Go.Proofs.Ytbpejjgjjjmlkaa
