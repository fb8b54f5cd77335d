/- The document's Table: Drop, Last, Revoked: the walks. -/
import Derived.Test.YtbpejjgjjjmlkaaR16
import Derived.Test.YtbpejjgjjjmlkaaR10
set_option linter.unusedVariables false
set_option linter.unusedSimpArgs false
namespace Go.Proofs.Ytbpejjgjjjmlkaa
open Go.RowKit Go.Maps

set_option maxRecDepth 100000 in
set_option maxHeartbeats 2000000 in
theorem rdrop_ok {w : World} {R : Nat} {vl : Value} {m : List Rc} (h : RTab w R vl m) (hl : m.length ≤ 100000) (s : Nat) :
    Calls Try.prog 27 #[.pointer (some ⟨R, 0, none⟩), .int .u32 (s : Int)] w fun e w' => (∃ v, e = .returned v) ∧ (∃ vl', RTab w' R vl' (dropR m s) ∧ ∀ g, vl'.ownBlock = some g → w.heap.size ≤ g) ∧ Touch [R] w w' := by
  have HT := Lib.hid h
  obtain ⟨a1, c1, hvl⟩ := h.row.len
  rw [List.length_map] at hvl
  obtain ⟨n, hn⟩ : ∃ n, n = m.length := ⟨_, rfl⟩
  rw [← hn] at hvl hl
  subst hvl
  have HN := Lib.hid hn
  obtain ⟨i0, hi0, hz0, hz1, hz2⟩ := info_parts info64
  have HI0 := Lib.hid hi0
  clear h hn hi0
  go_enter Try.func27, Try.ntmps27
  go_wp2_with fail
  go_loopw [4, 5] (fun t4 t5 wr => ∃ (j : Nat), j ≤ n ∧ t5 = .int .i64 (j : Int) ∧ (∃ a5 n5 c5, t4 = .slice a5 n5 c5) ∧ Hid (GInv (dropR (m.take j) s) t4 w wr)) (fun _ t5 _ => n - (intOf t5).toNat)
  case atStart => exact ⟨0, by omega, rfl, ⟨none, 0, 0, rfl⟩, Lib.hid (GInv.start w)⟩
  case round =>
    obtain ⟨j, hj, rfl, ⟨a5, n5, c5, rfl⟩, HI⟩ := hrel
    have HTr := Lib.hid (HT.out.kept0 (Touch.of_below HI.out.grow))
    have c0 := HTr.out.cell
    by_cases hlt : j < n
    · have hjm : j < m.length := by rw [← HN.out]; exact hlt
      obtain ⟨r, hr⟩ : ∃ r, m[j]? = some r := ⟨m[j], by simp [hjm]⟩
      obtain ⟨gm, cm, hv, _⟩ := HTr.out.row.open_ (by rw [List.length_map]; omega)
      rw [List.length_map, ← HN.out] at hv
      cases hv
      obtain ⟨x0, x1⟩ := HTr.out.row.cells2 hr
      have HST := Lib.hid (dropR_step hr s)
      obtain ⟨rb, rs⟩ := r
      dsimp only at x0 x1
      have b0 : (0 : Int) ≤ (j : Int) := by omega
      have b1 : (j : Int) < (n : Int) := by omega
      clear hr hjm
      by_cases hre : s < rs
      · have eg : decide ((s : Int) < (rs : Int)) = true := by simp; omega
        go_wp2_with (first | (at_builtin; refine wpList_append_row rfl _ _ 40 rfl 64 i0 (.agg #[.int .i64 0, .int .u32 0]) 2 16 Try.underlying40 HI0.out hz0 hz1 hz2 rfl (by omega) (.slice a5 n5 c5) ((dropR (m.take j) s).map pcell) rfl (HI.out.row.kept (Touch.alloc [] _ _) (by simp)) _ 1 (pcell (rb, rs)) rfl rfl (new_cells _ _ _) (pcell_one _) (by rw [List.length_map]; have := dropR_len (m.take j) s; have := List.length_take_le j m; omega) (by omega) ?_; intro v' wa happ htch))
        have HI2 := Lib.hid (show GInv (dropR (m.take (j + 1)) s) v' w wa by rw [HST.out, if_pos hre]; exact HI.out.app (Touch.alloc [] _ _) happ htch)
        clear happ htch
        go_roundw
        case rel =>
          obtain ⟨aa, cc, hh⟩ := HI2.out.row.len
          exact ⟨j + 1, by omega, by go_num, ⟨aa, _, cc, hh⟩, HI2⟩
        case measure => simp [intOf]; omega
      · have eg : decide ((s : Int) < (rs : Int)) = false := by simp; omega
        have HI2 := Lib.hid (show GInv (dropR (m.take (j + 1)) s) (.slice a5 n5 c5) w wr by rw [HST.out, if_neg hre]; exact HI.out)
        go_wp2_with fail
        go_roundw
        case rel => exact ⟨j + 1, by omega, by go_num, ⟨a5, n5, c5, rfl⟩, HI2⟩
        case measure => simp [intOf]; omega
    · obtain rfl : j = n := by omega
      have HF := Lib.hid ((show GInv (dropR m s) (.slice a5 n5 c5) w wr by have := HI.out; rw [HN.out, List.take_length] at this; exact this).stored HT.out)
      have hRf := HTr.out.free
      go_wp2_with fail
      go_end0
      exact ⟨⟨_, rfl⟩, ⟨_, HF.out.1⟩, HF.out.2⟩
#print axioms rdrop_ok
def RLastPost (m : List Rc) (b : Int) (w : World) (e : Ending) (w' : World) : Prop := ∃ (last : Nat) (found : Bool), e = .returned (.tuple #[.int .u32 (last : Int), .bool found]) ∧ LastIs (· ∈ m) b last found ∧ w = w'
set_option maxRecDepth 100000 in
set_option maxHeartbeats 2000000 in
theorem rlast_ok {w : World} {R : Nat} {vl : Value} {m : List Rc} (h : RTab w R vl m) (hl : m.length ≤ 100000) (b : Int) :
    Calls Try.prog 16 #[.pointer (some ⟨R, 0, none⟩), .int .i64 b] w (RLastPost m b w) := by
  have HT := Lib.hid h
  have c0 := h.cell
  obtain ⟨a1, c1, hvl⟩ := h.row.len
  rw [List.length_map] at hvl
  obtain ⟨n, hn⟩ : ∃ n, n = m.length := ⟨_, rfl⟩
  rw [← hn] at hvl hl
  subst hvl
  have HN := Lib.hid hn
  clear h hn
  go_enter Try.func16, Try.ntmps16
  go_wp2_with fail
  go_loopw [6, 7, 8] (fun t6 t7 t8 wr => ∃ (i last : Nat) (ok : Bool), i ≤ n ∧ t6 = .int .u32 (last : Int) ∧ t7 = .bool ok ∧ t8 = .int .i64 (i : Int) ∧ Hid (LastIs (· ∈ m.take i) b last ok) ∧ Hid (wr = w)) (fun _ _ t8 _ => n - (intOf t8).toNat)
  case atStart => exact ⟨0, 0, false, by omega, rfl, rfl, rfl, Lib.hid ((LastIs.none b).congr (fun r => by simp)), Lib.hid rfl⟩
  case round =>
    obtain ⟨i, last, ok, hi, rfl, rfl, rfl, HLI, HW⟩ := hrel
    obtain rfl := HW.out
    by_cases hlt : i < n
    · have him : i < m.length := by rw [← HN.out]; exact hlt
      obtain ⟨r, hr⟩ : ∃ r, m[i]? = some r := ⟨m[i], by simp [him]⟩
      obtain ⟨gm, cm, hv, _⟩ := HT.out.row.open_ (by rw [List.length_map]; omega)
      rw [List.length_map, ← HN.out] at hv
      cases hv
      obtain ⟨x0, x1⟩ := HT.out.row.cells2 hr
      have HMS := Lib.hid (mem_take_snoc hr)
      obtain ⟨rb, rs⟩ := r
      dsimp only at x0 x1
      have b0 : (0 : Int) ≤ (i : Int) := by omega
      have b1 : (i : Int) < (n : Int) := by omega
      clear hr him
      by_cases hb : rb = b
      · have eb : (rb == b) = true := by simpa using hb
        have HM := Lib.hid ((HLI.out.more (rb, rs) hb).congr HMS.out)
        by_cases hgt : last < rs
        · have eg : decide ((last : Int) < (rs : Int)) = true := by simp; omega
          go_wp2_with fail
          go_roundw
          case rel => exact ⟨i + 1, rs, true, by omega, rfl, rfl, by go_num, by rw [Nat.max_eq_right (by omega : last ≤ (rb, rs).2)] at HM; exact HM, Lib.hid trivial⟩
          case measure => simp [intOf]; omega
        · have eg : decide ((last : Int) < (rs : Int)) = false := by simp; omega
          go_wp2_with fail
          go_roundw
          case rel => exact ⟨i + 1, last, true, by omega, rfl, rfl, by go_num, by rw [Nat.max_eq_left (by omega : (rb, rs).2 ≤ last)] at HM; exact HM, Lib.hid trivial⟩
          case measure => simp [intOf]; omega
      · have eb : (rb == b) = false := by simpa using hb
        have HM := Lib.hid ((HLI.out.other (rb, rs) hb).congr HMS.out)
        go_wp2_with fail
        go_roundw
        case rel => exact ⟨i + 1, last, ok, by omega, rfl, rfl, by go_num, HM, Lib.hid trivial⟩
        case measure => simp [intOf]; omega
    · obtain rfl : i = n := by omega
      have HLM := Lib.hid (show LastIs (· ∈ m) b last ok by have := HLI.out; rw [HN.out, List.take_length] at this; exact this)
      go_wp2_with fail
      go_ret2
      exact ⟨last, ok, rfl, HLM.out, rfl⟩
theorem take_rc {zs : List Rc} {k : Nat} {z : Rc} (h : zs[k]? = some z) : zs.take (k + 1) = zs.take k ++ [z] := by
  have hk := (List.getElem?_eq_some_iff.1 h).1
  have hv := (List.getElem?_eq_some_iff.1 h).2
  rw [List.take_succ_eq_append_getElem hk, hv]
theorem revoked_sub {m : List Rc} {i : Nat} {b : Int} {s : Nat} (h : revoked (m.take i) b s = true) : revoked m b s = true := by
  unfold revoked at *
  rw [List.any_eq_true] at *
  obtain ⟨r, h1, h2⟩ := h
  exact ⟨r, List.mem_of_mem_take h1, h2⟩
set_option maxRecDepth 100000 in
set_option maxHeartbeats 2000000 in
theorem rrevoked_ok {w : World} {R : Nat} {vl : Value} {m : List Rc} (h : RTab w R vl m) (hl : m.length ≤ 100000) (b : Int) (s : Nat) :
    Calls Try.prog 17 #[.pointer (some ⟨R, 0, none⟩), .int .i64 b, .int .u32 (s : Int)] w fun e w' => e = .returned (.bool (revoked m b s)) ∧ w = w' := by
  have HT := Lib.hid h
  have c0 := h.cell
  obtain ⟨a1, c1, hvl⟩ := h.row.len
  rw [List.length_map] at hvl
  obtain ⟨n, hn⟩ : ∃ n, n = m.length := ⟨_, rfl⟩
  rw [← hn] at hvl hl
  subst hvl
  have HN := Lib.hid hn
  clear h hn
  go_enter Try.func17, Try.ntmps17
  go_wp2_with fail
  go_loopw [7] (fun t7 wr => ∃ (i : Nat), i ≤ n ∧ t7 = .int .i64 (i : Int) ∧ Hid (revoked (m.take i) b s = false) ∧ Hid (wr = w)) (fun t7 _ => n - (intOf t7).toNat)
  case atStart => exact ⟨0, by omega, rfl, Lib.hid rfl, Lib.hid rfl⟩
  case round =>
    obtain ⟨i, hi, rfl, HV, HW⟩ := hrel
    obtain rfl := HW.out
    by_cases hlt : i < n
    · have him : i < m.length := by rw [← HN.out]; exact hlt
      obtain ⟨r, hr⟩ : ∃ r, m[i]? = some r := ⟨m[i], by simp [him]⟩
      obtain ⟨gm, cm, hv, _⟩ := HT.out.row.open_ (by rw [List.length_map]; omega)
      rw [List.length_map, ← HN.out] at hv
      cases hv
      obtain ⟨x0, x1⟩ := HT.out.row.cells2 hr
      have HTS := Lib.hid (take_rc hr)
      obtain ⟨rb, rs⟩ := r
      dsimp only at x0 x1
      have b0 : (0 : Int) ≤ (i : Int) := by omega
      have b1 : (i : Int) < (n : Int) := by omega
      clear hr him
      by_cases hb : rb = b
      · have eb : (rb == b) = true := by simpa using hb
        by_cases hss : s ≤ rs
        · have es : decide ((s : Int) ≤ (rs : Int)) = true := by simp; omega
          have HV2 := Lib.hid (revoked_sub (m := m) (i := i + 1) (show revoked (m.take (i + 1)) b s = true by rw [HTS.out, revoked_snoc, HV.out]; simp [hb, hss]))
          go_wp2_with fail
          go_ret
          exact ⟨by rw [HV2.out]; rfl, rfl⟩
        · have es : decide ((s : Int) ≤ (rs : Int)) = false := by simp; omega
          have HV2 := Lib.hid (show revoked (m.take (i + 1)) b s = false by rw [HTS.out, revoked_snoc, HV.out]; simp [hb, hss])
          go_wp2_with fail
          go_roundw
          case rel => exact ⟨i + 1, by omega, by go_num, HV2, Lib.hid trivial⟩
          case measure => simp [intOf]; omega
      · have eb : (rb == b) = false := by simpa using hb
        have HV2 := Lib.hid (show revoked (m.take (i + 1)) b s = false by rw [HTS.out, revoked_snoc, HV.out]; simp [hb])
        go_wp2_with fail
        go_roundw
        case rel => exact ⟨i + 1, by omega, by go_num, HV2, Lib.hid trivial⟩
        case measure => simp [intOf]; omega
    · obtain rfl : i = n := by omega
      have HVm := Lib.hid (show revoked m b s = false by have := HV.out; rw [HN.out, List.take_length] at this; exact this)
      go_wp2_with fail
      go_ret
      exact ⟨by rw [HVm.out]; rfl, rfl⟩
#print axioms rrevoked_ok
end Go.Proofs.Ytbpejjgjjjmlkaa
