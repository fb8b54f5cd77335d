/- The law's alike: the walk. -/
import Derived.Test.YtkcbjhdklenlbaaD45
set_option linter.unusedVariables false
set_option linter.unusedSimpArgs false
namespace Go.Proofs.Ytkcbjhdklenlbaa
open Go.RowKit

/-- a disk and the document's one that say the same, apart from each other -/
structure Twin (w : World) (B R : Nat) (S T : List Nat) (k : Nat) (d : DS) : Prop where
  disk : IsDisk w B S d
  ref : IsRef w R T d
  apart : ∀ i ∈ S, i ∉ T
  last : d.last = applyW d.safe d.ws
  wlt : ∀ p ∈ d.ws, p.1 < d.safe.length
  ws : d.ws.length ≤ k
  acts : 0 ≤ d.acts ∧ d.acts ≤ k
  left : 0 ≤ d.left ∧ d.left ≤ 9223372036854775807
theorem Twin.kept0 {w w' : World} {B R : Nat} {S T : List Nat} {k : Nat} {d : DS} (h : Twin w B R S T k d) (ht : Touch [] w w') : Twin w' B R S T k d :=
  { h with disk := h.disk.kept ht (by simp), ref := h.ref.kept ht (by simp) }
theorem ClonePost.row {l : List Blk} {w : World} {e : Ending} {w' : World} (h : ClonePost l w e w') : ∃ v, e = .returned v ∧ Row w' 32 256 v (l.map bc) ∧ Grow w w' := by
  obtain ⟨g, cap, he, hr, _, hg⟩ := h
  exact ⟨_, he, hr, hg⟩
set_option maxRecDepth 100000 in
set_option maxHeartbeats 2000000 in
theorem alike_ok {w : World} {B R : Nat} {S T : List Nat} {k : Nat} {d : DS} (h : Twin w B R S T k d) (hk : k ≤ 100000) : Calls Try.prog 28 #[.pointer (some ⟨B, 0, none⟩), .pointer (some ⟨R, 0, none⟩)] w fun e w' => e = .returned (.bool true) ∧ Grow w w' := by
  have HT := Lib.hid h
  obtain ⟨g, c, vw, h1⟩ := h.ref
  have HP := Lib.hid h1
  obtain ⟨ad, cw, hvw⟩ := h1.waits.len
  have hc1 := h1.cells.2.1
  rw [hvw, List.length_map] at hc1
  have HC1 := Lib.hid hc1
  have hws := h.ws
  have hone := h1.one
  have hmost := h1.most
  have HL := Lib.hid (applyW_length d.ws d.safe)
  clear h h1 hvw hc1
  go_enter Try.func28, Try.ntmps28
  go_upto_region 1 with (fail)
  refine alike_reg B R g d.safe.length c d.ws.length cw ad d.acts d.dead (applyW d.safe d.ws) d.safe w (Lib.hid (HP.out.lt R HP.out.inR)) (Lib.hid HP.out.cells.1) HC1 (Lib.hid HP.out.cells.2.2.1) (Lib.hid HP.out.row) (Lib.hid (by rw [HL.out]; exact hone)) (Lib.hid (by rw [HL.out]; omega)) (Lib.hid hone) (Lib.hid (by omega)) (Lib.hid fun wq ht => blocks_any (HT.out.kept0 ht).disk) (Lib.hid fun wq ht => waiting_any (HT.out.kept0 ht).disk) (Lib.hid fun wq ht => acts_any (HT.out.kept0 ht).disk) (Lib.hid fun wq ht => dead_any (HT.out.kept0 ht).disk) (Lib.hid fun wq ht => rdead_ok (HT.out.kept0 ht).ref) (Lib.hid fun wq ht => (image_ok (HT.out.kept0 ht).disk).mono fun e w' hh => by rw [HT.out.last] at hh; exact hh.row) (Lib.hid fun wq ht => (rimage_ok (HP.out.kept ht (by simp)) HT.out.wlt (by omega)).mono fun e w' hh => hh.row) (Lib.hid fun wq ht => (safe_ok (HT.out.kept0 ht).disk).mono fun e w' hh => hh.row) _ _ _ _ _ _ _ _ _ _ _ _ _ _ _ _ _ _ _ _ _ _ _ _ _ _ _ _ _ _ _ _ _ _ _ _ _ _ _ _ _ _ _ _ _ _ _ _ _ _ _ _ _ _ (Lib.hid ?_)
  intro u5 u6 u7 u8 u9 u10 u11 u12 u13 u14 u15 u16 u17 u18 u19 u20 u21 u22 u23 u24 u25 u26 u27 u28 u29 u30 u31 u32 u33 u34 u35 u36 u37 u38 u39 u40 u41 u42 u43 u44 u45 u46 u47 u48 u49 u50 u51 u52 u53 u54 wz ht
  have HG := Lib.hid (show Grow w wz from ht.below (Nat.le_refl _) (by simp))
  clear ht
  go_wp2_with fail
  go_ret
  exact ⟨rfl, HG.out⟩
#print axioms alike_ok
end Go.Proofs.Ytkcbjhdklenlbaa
