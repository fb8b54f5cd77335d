/- slices.BinarySearch; In. -/
import Derived.Test.YtokehhegomiciaaH13
set_option linter.unusedVariables false
set_option linter.unusedSimpArgs false
namespace Go.Proofs.Ytokehhegomiciaa
open Go.RowKit Go.Maps

set_option maxRecDepth 100000 in
theorem search_nil (x : Int) (w : World) : Calls Try.prog 38 #[.slice none 0 0, .int .i64 x] w fun e w' => e = .returned (.tuple #[.int .i64 0, .bool false]) ∧ w' = w := by
  go_enter Try.func38, Try.ntmps38
  go_wp2
  refine wp_loop_rounds 1 ?_
  rw [rounds_succ]
  go_wp2
  go_ret2
  exact ⟨rfl, rfl⟩
theorem search_ints {w : World} {v : Value} {zs : List Int} (h : IRow w v zs) (hl : zs.length ≤ 1000000) (hs : zs.Pairwise (· ≤ ·)) (x : Int) : ∃ c : Int, Calls Try.prog 38 #[v, .int .i64 x] w fun e w' => e = .returned (.tuple #[.int .i64 c, .bool (decide (x ∈ zs))]) ∧ Grow w w' := by
  rcases (Row.g h).2 with ⟨rfl, h1⟩ | ⟨g, o, cap, rfl, h2, h3, h4, h5, h6⟩
  · have hz : zs = [] := by simpa using h1
    subst hz
    refine ⟨0, (search_nil x w).mono ?_⟩
    rintro e w' ⟨rfl, rfl⟩
    exact ⟨by simp, Grow.refl _⟩
  · have hlen : (zs.map icell).length = zs.length := List.length_map _
    rw [hlen] at h2 ⊢
    refine ⟨(((zs.take zs.length).countP (· < x) : Nat) : Int), (Any.slices_BinarySearch_int Try.lays25 g o zs.length cap zs x w (Nat.le_refl _) (by omega) (fun j hj => ?_) (by rw [List.take_length]; exact hs)).mono ?_⟩
    · have := h5 j (.int .i64 (zs.getD j 0)) (by rw [icells, List.getElem?_map, List.getElem?_eq_getElem hj]; simp [hj])
      exact this
    · rintro e w' ⟨rfl, q, rfl⟩
      refine ⟨?_, grow_drewN w q⟩
      rw [List.take_length, show zs.contains x = decide (x ∈ zs) by simp]
/-- does any transaction name the block? -/
def inC (l : List CT) (b : Int) : Bool := l.any fun t => decide (b ∈ t.cs.map (·.1))
theorem in_not {w : World} {v : Value} {b : Int} (hI : Calls Try.prog 30 #[v] w fun e w' => e = .returned (.bool false) ∧ w = w') : Calls Try.prog 25 #[v, .int .i64 b] w fun e w' => e = .returned (.bool false) ∧ w = w' := by
  go_enter Try.func25, Try.ntmps25
  go_wp2_with fail
  refine hI.mono ?_
  rintro e w' ⟨rfl, rfl⟩
  go_wp2_with fail
  go_ret
  exact ⟨rfl, rfl⟩
set_option maxHeartbeats 1000000 in
theorem in_ok {w : World} {B : Nat} {g : G4} {s : CS} {T : List Nat} {va : Value} {xs : List CV} (h : LSt w B g s T va xs) (b : Int) : Calls Try.prog 25 #[.pointer (some ⟨B, 0, none⟩), .int .i64 b] w fun e w' => e = .returned (.bool (inC s.all b)) ∧ Grow w w' := by
  obtain ⟨a, cap, rfl⟩ := h.va
  have HH := Lib.hid h
  have c0 : w.cell? ⟨B, 0, none⟩ = some (.bool true) := cell_at h.li.obj 0
  have c7 : w.cell? ⟨B, 7, none⟩ = some (.slice a s.all.length cap) := cell_at h.li.obj 7
  have hn := h.rowlen
  have hnb := h.li.len
  rw [hn] at hnb
  obtain ⟨n, hnn⟩ : ∃ n, n = s.all.length := ⟨_, rfl⟩
  rw [← hnn] at c7 hnb hn
  have HN := Lib.hid hn
  have HNN := Lib.hid hnn
  have HI := Lib.hid (is_made c0)
  obtain ⟨R, hR⟩ : ∃ R, inC s.all b = R := ⟨_, rfl⟩
  rw [hR]
  have HR := Lib.hid hR
  clear h hn hnn c0 hR
  go_enter Try.func25, Try.ntmps25
  go_wp2_with fail
  refine HI.out.mono ?_
  rintro e w' ⟨rfl, rfl⟩
  go_wp2_with fail
  clear c7
  go_loopw [16] (fun t16 wr => ∃ k : Nat, t16 = .int .i64 (k : Int) ∧ k ≤ n ∧ Hid (Grow w wr ∧ inC (s.all.take k) b = false)) (fun t16 _ => n - (intOf t16).toNat)
  case atStart => exact ⟨0, by go_num, by omega, Lib.hid ⟨Grow.refl _, rfl⟩⟩
  case round =>
    obtain ⟨k, rfl, hkn, HK⟩ := hrel
    by_cases hk : k < n
    · obtain ⟨x, hx⟩ : ∃ x, xs[k]? = some x := ⟨xs[k]'(by rw [HN.out]; exact hk), by simp⟩
      have hW := HH.out.grow HK.out.1
      obtain ⟨ga, oa, rfl, hr, q2, q3, q4⟩ := hW.li.elem hx
      have c7 : wr.cell? ⟨B, 7, none⟩ = some (.slice (some ⟨ga, oa, none⟩) n cap) := by rw [HNN.out]; exact cell_at hW.li.obj 7
      have hxi := hW.li.is x (List.mem_of_getElem? hx)
      obtain ⟨c, hc⟩ := search_ints hxi.bl (by rw [List.length_map]; have := hxi.ok.len; omega) (hxi.ok.lt.imp fun h => by omega) b
      have HC := Lib.hid hc
      have HXT := Lib.hid (HH.out.at_all hx)
      obtain ⟨ab, cb, hvb⟩ := IRow.len hxi.bl
      rw [hvb] at q3 HC
      obtain ⟨f, hf⟩ : ∃ f, decide (b ∈ x.t.cs.map (·.1)) = f := ⟨_, rfl⟩
      rw [hf] at HC
      have HF := Lib.hid hf
      generalize (x.t.cs.map (·.1)).length = nb at *
      have b0 : (0 : Int) ≤ (k : Int) := by omega
      have b1 : (k : Int) < (n : Int) := by omega
      clear hx hr q2 q4 hxi hc hvb hf hW
      go_wp2_with fail
      refine HC.out.mono ?_
      intro e w2 hp
      obtain ⟨rfl, hg2⟩ := hp
      have HG2 := Lib.hid (show Grow w w2 from HK.out.1.trans hg2)
      have HS2 := Lib.hid (show inC (s.all.take (k + 1)) b = f by
        unfold inC
        rw [List.take_add_one, HXT.out, List.any_append]
        have := HK.out.2
        unfold inC at this
        rw [this]
        simpa using HF.out)
      clear hg2 c7 q3
      cases f with
      | true =>
        have HT := Lib.hid (show R = true by
          rw [← HR.out]
          have h1 := HS2.out
          unfold inC at h1 ⊢
          rw [List.any_eq_true] at h1 ⊢
          obtain ⟨t, ht, h2⟩ := h1
          exact ⟨t, List.mem_of_mem_take ht, h2⟩)
        go_wp2_with fail
        go_ret
        exact ⟨by rw [HT.out]; rfl, HG2.out⟩
      | false =>
        have HK2 := Lib.hid (show Grow w w2 ∧ inC (s.all.take (k + 1)) b = false from ⟨HG2.out, HS2.out⟩)
        go_wp2_with fail
        go_roundw
        case rel => exact ⟨k + 1, by go_num, by omega, HK2⟩
        case measure => simp [intOf]; omega
    · obtain rfl : k = n := by omega
      have HT := Lib.hid (show R = false by rw [← HR.out]; have := HK.out.2; rwa [HNN.out, List.take_length] at this)
      have HG := Lib.hid HK.out.1
      go_wp2_with fail
      go_ret
      exact ⟨by rw [HT.out]; rfl, HG.out⟩
#print axioms in_ok
end Go.Proofs.Ytokehhegomiciaa
