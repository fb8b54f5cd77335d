/- slices.Collect of commit.actions. -/
import Derived.Test.YtieknecbheeekaaDoorA4
set_option linter.unusedVariables false
set_option linter.unusedSimpArgs false
namespace Go.Proofs.YtieknecbheeekaaDoor
open Go.RowKit Go.Maps Go.Shelf
theorem plan_blk {os ps : List Int} {hs bs : List Blk} (hh : ∀ b ∈ hs, b.length = 256) (hb : ∀ b ∈ bs, b.length = 256) : ∀ x ∈ plan os ps hs bs, x.2.2.length = 256 := by
  intro x hx
  unfold plan at hx
  rcases List.mem_append.1 hx with h | h
  · obtain ⟨z, _, rfl⟩ := List.mem_map.1 h; exact zeroB_len
  · rcases List.mem_append.1 h with h | h
    · obtain ⟨z, hz, rfl⟩ := List.mem_map.1 h; exact hh z hz
    · rcases List.mem_append.1 h with h | h
      · unfold firsts at h
        obtain ⟨z, hz, rfl⟩ := List.mem_map.1 h
        exact hb z.2 (List.of_mem_zip (List.dropLast_subset _ hz)).2
      · rcases List.mem_cons.1 h with h | h
        · rw [h]; exact zeroB_len
        · unfold lasts at h
          split at h
          · cases h
          · rename_i y hy
            have hm := List.mem_of_getLast? hy
            simp only [List.mem_cons, List.not_mem_nil, or_false] at h
            rcases h with h | h
            · rw [h]; exact hb y.2 (List.of_mem_zip hm).2
            · rw [h]; exact zeroB_len
theorem plan_small {os ps : List Int} {hs bs : List Blk} (hl : bs.length = ps.length) (h1 : os.length ≤ 1000) (h2 : ps.length ≤ 1000) (h3 : hs.length ≤ 1) : (plan os ps hs bs).length ≤ 10000 := by
  rw [plan_length hl]
  have : (lasts ps bs).length ≤ 2 := by
    unfold lasts
    split
    · simp
    · simp
  omega
theorem collect_ok {w : World} {Bo Bp Bh Bb : Nat} {vo vp vh vb : Value} {os ps : List Int} {hs bs : List Blk} (hS : PSrc Bo Bp Bh Bb vo vp vh vb os ps hs bs w) (hlo : os.length ≤ 1000) (hlp : ps.length ≤ 1000) (hlh : hs.length ≤ 1) (hlb : bs.length = ps.length) (hpp : ∀ p ∈ ps, 1 ≤ p ∧ p ≤ 255) :
    Calls Tryd.prog 14 #[.func (.func 33) #[] #[.pointer (some ⟨Bo, 0, none⟩), .pointer (some ⟨Bh, 0, none⟩), .pointer (some ⟨Bb, 0, none⟩), .pointer (some ⟨Bp, 0, none⟩)]] w fun e w' => ∃ v, e = .returned v ∧ Row w' 36 258 v ((plan os ps hs bs).map acell) ∧ Grow w w' ∧ (∀ q, v.ownBlock = some q → w.heap.size ≤ q) := by
  have HA := Lib.hid (appendSeq_ok srcT_lt (actions_in 7 (by omega) hS hlo hlp hlh hlb hpp) (plan_blk (fun b hb => hS.hs.2 b hb) (fun b hb => hS.bs.2 b hb)) (plan_small hlb hlo hlp hlh))
  clear hS
  go_enter Tryd.func14, Tryd.ntmps14
  go_wp2_with fail
  refine HA.out.mono ?_
  rintro e w' ⟨v, rfl, h1, h2, h3⟩
  have H := Lib.hid (And.intro h1 (And.intro h2 h3))
  obtain ⟨a, c, hv⟩ := Row.len h1
  obtain ⟨n, hn⟩ : ∃ n, n = ((plan os ps hs bs).map acell).length := ⟨_, rfl⟩
  rw [← hn] at hv
  subst hv
  clear h1 h2 h3 hn
  go_wp2_with fail
  go_ret
  exact ⟨_, rfl, H.out⟩
/-- the cells that commit.actions makes, and the rows in them -/
theorem psrc_of {w : World} {vo vp vh vb : Value} {os ps : List Int} {hs bs : List Blk} (ho : ISee w vo os) (hp : ISee w vp ps) (hh : BSee w vh hs) (hb : BSee w vb bs) :
    PSrc w.heap.size (w.heap.size + 1) (w.heap.size + 2) (w.heap.size + 3) vo vp vh vb os ps hs bs ((((w.alloc (.cells #[vo] 26)).alloc (.cells #[vp] 26)).alloc (.cells #[vh] 57)).alloc (.cells #[vb] 57)) := by
  have g1 : Grow w (w.alloc (.cells #[vo] 26)) := Grow.alloc _ _
  have h1 : (w.alloc (.cells #[vo] 26)).heap[w.heap.size]? = some (.cells #[vo] 26) := World.alloc_heap_new _ _
  have s1 : (w.alloc (.cells #[vo] 26)).heap.size = w.heap.size + 1 := World.size_alloc _ _
  generalize w.alloc (.cells #[vo] 26) = w1 at *
  have g2 : Grow w1 (w1.alloc (.cells #[vp] 26)) := Grow.alloc _ _
  have h2 : (w1.alloc (.cells #[vp] 26)).heap[w.heap.size + 1]? = some (.cells #[vp] 26) := by rw [← s1]; exact World.alloc_heap_new _ _
  have s2 : (w1.alloc (.cells #[vp] 26)).heap.size = w.heap.size + 2 := by rw [World.size_alloc, s1]
  generalize w1.alloc (.cells #[vp] 26) = w2 at *
  have g3 : Grow w2 (w2.alloc (.cells #[vh] 57)) := Grow.alloc _ _
  have h3 : (w2.alloc (.cells #[vh] 57)).heap[w.heap.size + 2]? = some (.cells #[vh] 57) := by rw [← s2]; exact World.alloc_heap_new _ _
  have s3 : (w2.alloc (.cells #[vh] 57)).heap.size = w.heap.size + 3 := by rw [World.size_alloc, s2]
  generalize w2.alloc (.cells #[vh] 57) = w3 at *
  have g4 : Grow w3 (w3.alloc (.cells #[vb] 57)) := Grow.alloc _ _
  have h4 : (w3.alloc (.cells #[vb] 57)).heap[w.heap.size + 3]? = some (.cells #[vb] 57) := by rw [← s3]; exact World.alloc_heap_new _ _
  generalize w3.alloc (.cells #[vb] 57) = w4 at *
  have g24 := g3.trans g4
  have g14 := g2.trans g24
  have g04 := g1.trans g14
  exact ⟨(g14.block _ (by omega)).trans h1, (g24.block _ (by omega)).trans h2, (g4.block _ (by omega)).trans h3, h4, ho.grow g04, hp.grow g04, ⟨hh.1.grow g04, hh.2⟩, ⟨hb.1.grow g04, hb.2⟩⟩
#print axioms collect_ok
#print axioms psrc_of
end Go.Proofs.YtieknecbheeekaaDoor
