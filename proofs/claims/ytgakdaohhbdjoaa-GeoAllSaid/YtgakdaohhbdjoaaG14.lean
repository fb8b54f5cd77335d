/- The chapter's examples: awake. -/
import Derived.Test.YtgakdaohhbdjoaaG13
set_option linter.unusedVariables false
set_option linter.unusedSimpArgs false
namespace Go.Proofs.Ytgakdaohhbdjoaa
open Go.RowKit Go.Shelf

theorem aw_may : May 2 16 8 40 := by unfold May; decide
theorem aw_may_no : ¬ May 2 16 56 40 := by unfold May; decide
theorem aw_blocks : nBlocks 2 16 8 40 = 74 := by unfold nBlocks; rw [if_pos aw_may]; rfl
theorem aw_what : whatOf 2 16 8 40 57 = .tuple #[.int .u8 7, .int .i64 0, .int .i64 15] := by
  unfold whatOf; rw [if_pos ⟨aw_may, by decide, by rw [aw_blocks]; decide⟩]; rfl
theorem aw_inodes : nInodes 2 16 8 40 = 16 := by unfold nInodes; rw [if_pos aw_may]; rfl
theorem aw_data : nData 2 16 8 40 = 12 := by unfold nData; rw [if_pos aw_may]; rfl
theorem aw_inode : inodeOf 2 16 8 40 16 = .tuple #[.int .i64 61, .int .i64 192, .bool true] := by
  unfold inodeOf; rw [if_pos ⟨by decide, by rw [aw_inodes]; decide⟩]; rfl
theorem aw_start : startOf 2 16 8 40 1 = .tuple #[.int .i64 58, .bool true] := by
  unfold startOf; rw [if_pos ⟨aw_may, by decide, by decide⟩]; rfl
set_option maxRecDepth 100000 in
set_option maxHeartbeats 2000000 in
theorem awake_ok (w : World) : Calls Try.prog 28 #[] w fun e w' => e = .returned (.bool true) ∧ Grow w w' := by
  have HW := Lib.hid aw_what
  have HI := Lib.hid aw_inode
  have HS := Lib.hid aw_start
  have HB := Lib.hid aw_blocks
  have HN := Lib.hid aw_inodes
  have HD := Lib.hid aw_data
  go_enter Try.func28, Try.ntmps28
  go_wp2_with fail
  refine (what_any 2 16 8 40 57 _).mono ?_
  rintro e w1 ⟨rfl, hg1⟩
  rw [HW.out]
  obtain ⟨c0, c1, c2, c3⟩ := box_at hg1
  have HG1 := Lib.hid hg1
  clear hg1
  go_wp2_with fail
  refine (inode_any 2 16 8 40 16 _).mono ?_
  rintro e w2 ⟨rfl, hg2⟩
  rw [HI.out]
  clear c0 c1 c2 c3
  obtain ⟨c0, c1, c2, c3⟩ := box_at (HG1.out.trans hg2)
  have HG2 := Lib.hid (HG1.out.trans hg2)
  clear hg2
  go_wp2_with fail
  refine (start_any 2 16 8 40 1 _).mono ?_
  rintro e w3 ⟨rfl, hg2⟩
  rw [HS.out]
  clear c0 c1 c2 c3
  obtain ⟨c0, c1, c2, c3⟩ := box_at (HG2.out.trans hg2)
  have HG3 := Lib.hid (HG2.out.trans hg2)
  clear hg2
  go_wp2_with fail
  refine (may_yes 2 16 8 40 aw_may _).mono ?_
  rintro e w4 ⟨rfl, hg2⟩
  clear c0 c1 c2 c3
  obtain ⟨c0, c1, c2, c3⟩ := box_at (HG3.out.trans hg2)
  have HG4 := Lib.hid (HG3.out.trans hg2)
  clear hg2
  go_wp2_with fail
  refine (may_no 2 16 56 40 aw_may_no _).mono ?_
  rintro e w5 ⟨rfl, hg2⟩
  clear c0 c1 c2 c3
  obtain ⟨c0, c1, c2, c3⟩ := box_at (HG4.out.trans hg2)
  have HG5 := Lib.hid (HG4.out.trans hg2)
  clear hg2
  go_wp2_with fail
  refine (blocks_any 2 16 8 40 _).mono ?_
  rintro e w6 ⟨rfl, hg2⟩
  rw [HB.out]
  clear c0 c1 c2 c3
  obtain ⟨c0, c1, c2, c3⟩ := box_at (HG5.out.trans hg2)
  have HG6 := Lib.hid (HG5.out.trans hg2)
  clear hg2
  go_wp2_with fail
  refine (inodes_any 2 16 8 40 _).mono ?_
  rintro e w7 ⟨rfl, hg2⟩
  rw [HN.out]
  clear c0 c1 c2 c3
  obtain ⟨c0, c1, c2, c3⟩ := box_at (HG6.out.trans hg2)
  have HG7 := Lib.hid (HG6.out.trans hg2)
  clear hg2
  go_wp2_with fail
  refine (data_any 2 16 8 40 _).mono ?_
  rintro e w8 ⟨rfl, hg2⟩
  rw [HD.out]
  clear c0 c1 c2 c3
  obtain ⟨c0, c1, c2, c3⟩ := box_at (HG7.out.trans hg2)
  have HG8 := Lib.hid (HG7.out.trans hg2)
  clear hg2
  go_wp2_with fail
  refine (number_yes 2 16 8 40 1 0 aw_may (by decide) (by decide) (by decide) (by decide) _).mono ?_
  rintro e w9 ⟨rfl, hg2⟩
  have HG9 := Lib.hid (HG8.out.trans hg2)
  clear hg2 c0 c1 c2 c3
  go_wp2_with fail
  go_ret
  exact ⟨rfl, (Grow.alloc _ _).trans HG9.out⟩
#print axioms awake_ok
end Go.Proofs.Ytgakdaohhbdjoaa
