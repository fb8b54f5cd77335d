/- quernref19.Over: the walk. -/
import Derived.Test.YtlhhbkpocpnebaaP28a
set_option linter.unusedVariables false
set_option linter.unusedSimpArgs false
namespace Go.Proofs.Ytlhhbkpocpnebaa
open Go.RowKit Go.Maps

theorem GInv.later {W : World} {v : Value} {l : List Blk} {wr w' : World} (h : GInv W v l wr) (hg : Grow wr w') : GInv W v l w' := ⟨h.row.grow hg, h.lo, Grow.trans h.grow hg⟩
theorem GInv.stored {w : World} {gd n cap : Nat} {l : List Blk} {wr : World} (h : GInv w (.slice (some ⟨gd, 0, none⟩) n cap) l wr) {c : Cp} (hc : c.2.length = 256) (b : Nat) (hb : c.1 = b) (hlt : b < l.length) : GInv w (.slice (some ⟨gd, 0, none⟩) n cap) (putB l c) (wr.setCells gd (b * 256) (bc c.2)) where
  row := by
    have h1 := Row.store h.row (i := b) (c := bc c.2) (by rw [bc_length, hc]) (by rw [List.length_map]; exact hlt)
    unfold putB
    rw [if_pos ⟨by omega, by omega⟩, show c.1.toNat = b by omega]
    unfold BRow
    rw [List.map_set]
    exact h1
  grow := Below.trans h.grow ((touch_setCells (S := [gd]) (by simp) _ _ _).below h.grow.size (fun j hj => by rw [List.mem_singleton.1 hj]; exact h.lo gd rfl))
  lo := h.lo
theorem empty_row (w : World) (e sz : Nat) : Row (w.alloc (.cells #[] e)) e sz (.slice (some ⟨w.heap.size, 0, none⟩) 0 0) [] :=
  ⟨by simp, by simp, .inr ⟨w.heap.size, 0, #[], rfl, Nat.zero_le _, heap_alloc_last _ _, by simp, by simp, by simp, by simp⟩⟩
theorem mk_blks (w : World) : (Instr.buildSlice 27 0 #[]).run Try.prog w = .ok (.slice (some ⟨w.heap.size, 0, none⟩) 0 0) (w.alloc (.cells #[] 29)) := by kernel_rfl
/-- a copy of rows of blocks -/
theorem copyrow {w wa : World} {va : Value} {l : List Blk} (ha : AppAtE 29 256 (w.alloc (.cells #[] 29)) (.slice (some ⟨w.heap.size, 0, none⟩) 0 0) ([] ++ l.map bc) va wa) (ht : Touch (ownL (.slice (some ⟨w.heap.size, 0, none⟩) 0 0)) (w.alloc (.cells #[] 29)) wa) : GInv w va l wa where
  row := by have := ha.1; rw [List.nil_append] at this; exact this
  lo := fun g e => by
    rcases ha.2 with h1 | ⟨g', h1, h2⟩
    · rw [h1] at e
      exact Nat.le_of_eq (Option.some.inj e)
    · rw [e] at h1; cases h1
      simp at h2
      omega
  grow := Below.trans (Grow.alloc w _) (ht.below (by simp) (fun k hk => by have := ownL_mem.1 hk; exact Nat.le_of_eq (Option.some.inj this)))
set_option maxRecDepth 100000 in
set_option maxHeartbeats 8000000 in
theorem rover_ok {w : World} {v vc : Value} {l : List Blk} {cs : List Cp} (h : BRow w v l) (hc : CRow w vc cs) (hl : l.length ≤ 4096) (hcs : cs.length ≤ 1000000) (hok : ∀ c ∈ cs, IntOk c.1) : Calls Try.prog 19 #[v, vc] w (OverPost (overB l cs) w) := by
  have HB0 := Lib.hid h
  have HC := Lib.hid hc
  have HOK := Lib.hid hok
  obtain ⟨n, hn⟩ : ∃ n, n = l.length := ⟨_, rfl⟩
  obtain ⟨m, hm⟩ : ∃ m, m = cs.length := ⟨_, rfl⟩
  have HN := Lib.hid hn
  have HM := Lib.hid hm
  obtain ⟨a, cap, hv⟩ := h.len
  obtain ⟨ac, kc, hvc⟩ := hc.len
  rw [← hn] at hv hl
  rw [← hm] at hvc hcs
  subst hv hvc
  have hmk := mk_blks
  obtain ⟨ib, hib, hx0, hx1, hx2⟩ := info_parts info32b
  have HIB := Lib.hid hib
  have HE := Lib.hid (empty_row w 29 256)
  have HSB := Lib.hid (Src.grow (Row.src HB0.out (fun c hc u hu => by obtain ⟨x, _, rfl⟩ := List.mem_map.1 hc; exact bc_one x u hu)) (Grow.alloc w (.cells #[] 29)))
  have HLL := Lib.hid (show (([] : List Blk).map bc).length + (l.map bc).length ≤ 1000000 by rw [List.length_map, List.length_map, List.length_nil]; have := HN.out; omega)
  clear h hc hok hn hm hib
  go_enter Try.func19, Try.ntmps19
  go_upto_region 2 with (at_builtin; refine wpList_append_rows rfl (.tmp 7) (.tmp 8) 27 rfl 29 ib (.agg (bc zeroB).toArray) 256 256 Try.underlying27 HIB.out hx0 hx1 hx2 (by show (bc zeroB).toArray.size = 256; exact zero_size) (by omega) (.slice (some ⟨w.heap.size, 0, none⟩) 0 0) (.slice a n cap) _ _ rfl HE.out rfl HSB.out HLL.out (by omega) ?_; intro va wa happ htch)
  have HI0 := Lib.hid (show GInv w va (overB l (cs.take 0)) wa from copyrow happ htch)
  obtain ⟨p, kd, hva⟩ := BRow.len HI0.out.row
  rw [overB_length, ← HN.out] at hva
  subst hva
  clear happ htch hmk
  go_wp2
  go_loopw [6] (fun t6 wr => ∃ k : Nat, t6 = .int .i64 (k : Int) ∧ k ≤ m ∧ Hid (GInv w (.slice p n kd) (overB l (cs.take k)) wr)) (fun t6 _ => m - (intOf t6).toNat)
  case atStart => exact ⟨0, by go_num, by omega, HI0⟩
  case round =>
    obtain ⟨k, rfl, hkm, HI⟩ := hrel
    by_cases hk : k < m
    · obtain ⟨c, hck⟩ : ∃ c, cs[k]? = some c := ⟨cs[k]'(by rw [← HM.out]; exact hk), by simp⟩
      have hrow := HC.out.grow HI.out.grow
      obtain ⟨gc, cc, hvg, hgc⟩ := hrow.open_ (by rw [← HM.out]; omega)
      rw [← HM.out] at hvg
      cases hvg
      have hrg := hrow.range hck
      have hcell : wr.cell? ⟨gc, k * 257, none⟩ = some (.int .i64 c.1) := hrg 0 _ rfl
      have HC2 := Lib.hid (HC.out.blk (List.mem_of_getElem? hck))
      have HRD := Lib.hid (show gc < wr.heap.size ∧ wr.rangeAt gc (k * 257 + 1) (bc c.2) from ⟨hgc, fun j u hj => by have := hrg (j + 1) u hj; rw [show k * 257 + (j + 1) = k * 257 + 1 + j by omega] at this; exact this⟩)
      have HIO := Lib.hid (HOK.out c (List.mem_of_getElem? hck))
      have HCK := Lib.hid hck
      have HGC := Lib.hid hgc
      have HLN := Lib.hid (show (overB l (cs.take k)).length = n by rw [overB_length]; exact HN.out.symm)
      clear hck hrow hrg hgc
      by_cases h0 : c.1 < 0
      · have HI2 := Lib.hid (show GInv w (.slice p n kd) (overB l (cs.take (k + 1))) wr by rw [overB_take HCK.out]; unfold putB; rw [if_neg (by omega)]; exact HI.out)
        generalize c.1 = b at *
        have d0 : decide ((0 : Int) ≤ b) = false := by simp; omega
        go_wp2
        go_roundw
        case rel => exact ⟨k + 1, by go_num, by omega, HI2⟩
        case measure => simp [intOf]; omega
      · by_cases h1 : c.1 < n
        · obtain ⟨b, hb⟩ : ∃ b : Nat, c.1 = (b : Int) := ⟨c.1.toNat, by omega⟩
          have hbn : b < n := by omega
          obtain ⟨gd, kd', hvd, hgd⟩ := BRow.open_ HI.out.row (by rw [HLN.out]; omega)
          rw [HLN.out] at hvd
          cases hvd
          have HI2 := Lib.hid (show ∀ w', Touch [] wr w' → GInv w (.slice (some ⟨gd, 0, none⟩) n kd) (overB l (cs.take (k + 1))) (w'.setCells gd (b * 256) (bc c.2)) from fun w' ht => by
            rw [overB_take HCK.out]
            exact (HI.out.later (ht.below (Nat.le_refl _) (by simp))).stored HC2.out b hb (by rw [HLN.out]; exact hbn))
          have HTH := Lib.hid (show ∀ w', Touch [] wr w' → w'.there gd (b * 256) (bc c.2).toArray.size from fun w' ht => by
            rw [show (bc c.2).toArray.size = 256 by rw [List.size_toArray, bc_length, HC2.out]]
            exact Row.there (HI.out.row.grow (ht.below (Nat.le_refl _) (by simp))) (by rw [List.length_map, HLN.out]; exact hbn))
          rw [hb] at hcell
          have HB := Lib.hid (And.intro HGC.out hcell)
          have d0 : decide ((0 : Int) ≤ (b : Int)) = true := by simp
          have d1 : decide ((b : Int) < (n : Int)) = true := by simp; omega
          clear h0 h1 hb hgd
          go_upto_region 6 with (fail)
          refine rover_reg6 k m gc kc gd n kd b c wr hk (by omega) hbn (by omega) HB HRD HC2 HTH _ _ _ _ _ _ _ _ _ _ _ _ _ _ _ _ _ _ _ _ _ _ _ _ _ _ _ _ _ _ _ _ _ _ _ _ _ _ _ _ _ _ _ (Lib.hid ?hroverreg61)
          intro u32 u33 u34 u35 u36 u37 u38 u39 u40 u41 u42 u43 W2 hRW2
          have HI3 := Lib.hid (HI2.out W2 hRW2)
          clear hRW2 hcell
          go_wp2
          go_roundw
          case rel => exact ⟨k + 1, by go_num, by omega, HI3⟩
          case measure => simp [intOf]; omega
        · have HI2 := Lib.hid (show GInv w (.slice p n kd) (overB l (cs.take (k + 1))) wr by rw [overB_take HCK.out]; unfold putB; rw [if_neg (by rw [HLN.out]; omega)]; exact HI.out)
          generalize c.1 = b at *
          have d0 : decide ((0 : Int) ≤ b) = true := by simp; omega
          have d1 : decide (b < (n : Int)) = false := by simp; omega
          go_wp2
          go_roundw
          case rel => exact ⟨k + 1, by go_num, by omega, HI2⟩
          case measure => simp [intOf]; omega
    · obtain rfl : k = m := by omega
      have HF := Lib.hid (show GInv w (.slice p n kd) (overB l cs) wr by have := HI.out; rwa [HM.out, List.take_length] at this)
      clear HI
      go_wp2
      go_ret
      exact ⟨_, rfl, HF.out.row, HF.out.grow, HF.out.lo⟩
#print axioms rover_ok
end Go.Proofs.Ytlhhbkpocpnebaa
