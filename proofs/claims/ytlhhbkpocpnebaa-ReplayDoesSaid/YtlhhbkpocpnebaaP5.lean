/- Transactions that came in, told in short; Many, many: the walks. -/
import Derived.Test.YtlhhbkpocpnebaaP4
set_option linter.unusedVariables false
set_option linter.unusedSimpArgs false
namespace Go.Proofs.Ytlhhbkpocpnebaa
open Go.RowKit Go.Maps

/-- rows that came in -/
def RowAt (w : World) (x : Addr) (p : PR) : Prop := w.cell? x = some (.int .i64 p.b) ∧ w.cell? (x.add 1) = some (.int .u8 (p.f : Int)) ∧ w.cell? (x.add 2) = some (.bool p.m) ∧ p.ok
def RowsIn (w : World) (v : Value) (l : List PR) : Prop := ∃ a cap, v = .slice a l.length cap ∧ ∀ i p, l[i]? = some p → ∃ y : Addr, a = some y ∧ y.block < w.heap.size ∧ RowAt w (y.add (i * 3)) p
/-- integers that came in -/
def IntsIn (w : World) (v : Value) (l : List Int) : Prop := ∃ a cap, v = .slice a l.length cap ∧ (a = none → cap = 0) ∧ ∀ i z, l[i]? = some z → ∃ y : Addr, a = some y ∧ y.block < w.heap.size ∧ w.cell? (y.add i) = some (.int .i64 z) ∧ IntOk z
/-- a transaction told in short -/
structure TSh where
  rows : List PR
  rs : List Int
def TShAt (w : World) (x : Addr) (p : TSh) : Prop := ∃ (m s : Value) (a1 : Option Addr) (c1 : Nat) (a2 : Option Addr) (c2 : Nat), w.cell? x = some m ∧ w.cell? (x.add 1) = some (.slice a1 p.rows.length c1) ∧ w.cell? (x.add 2) = some (.slice a2 p.rs.length c2) ∧ w.cell? (x.add 3) = some s ∧ RowsIn w (.slice a1 p.rows.length c1) p.rows ∧ IntsIn w (.slice a2 p.rs.length c2) p.rs ∧ p.rows.length ≤ 9223372036854775807 ∧ p.rs.length ≤ 9223372036854775807
def TShIn (w : World) (v : Value) (l : List TSh) : Prop := ∃ a cap, v = .slice a l.length cap ∧ ∀ i p, l[i]? = some p → ∃ y : Addr, a = some y ∧ y.block < w.heap.size ∧ TShAt w (y.add (i * 4)) p
theorem add_block' (a : Addr) (n : Nat) : (a.add n).block = a.block := by unfold Addr.add; split <;> rfl
theorem Grow.cell {w w' : World} (h : Grow w w') {p : Addr} (hp : p.block < w.heap.size) : w'.cell? p = w.cell? p := Below.cell h hp
theorem RowsIn.grow {w w' : World} {v : Value} {l : List PR} (h : RowsIn w v l) (hg : Grow w w') : RowsIn w' v l := by
  obtain ⟨a, cap, hv, hi⟩ := h
  refine ⟨a, cap, hv, fun i p hp => ?_⟩
  obtain ⟨y, ha, hy, h0, h1, h2, hok⟩ := hi i p hp
  exact ⟨y, ha, Nat.lt_of_lt_of_le hy hg.size, (hg.cell (by rw [add_block']; exact hy)).trans h0, (hg.cell (by rw [add_block', add_block']; exact hy)).trans h1, (hg.cell (by rw [add_block', add_block']; exact hy)).trans h2, hok⟩
theorem IntsIn.grow {w w' : World} {v : Value} {l : List Int} (h : IntsIn w v l) (hg : Grow w w') : IntsIn w' v l := by
  obtain ⟨a, cap, hv, h00, hi⟩ := h
  refine ⟨a, cap, hv, h00, fun i p hp => ?_⟩
  obtain ⟨y, ha, hy, h0, hok⟩ := hi i p hp
  exact ⟨y, ha, Nat.lt_of_lt_of_le hy hg.size, (hg.cell (by rw [add_block']; exact hy)).trans h0, hok⟩
theorem TShIn.grow {w w' : World} {v : Value} {l : List TSh} (h : TShIn w v l) (hg : Grow w w') : TShIn w' v l := by
  obtain ⟨a, cap, hv, hi⟩ := h
  refine ⟨a, cap, hv, fun i p hp => ?_⟩
  obtain ⟨y, ha, hy, m, s, a1, c1, a2, c2, h0, h1, h2, h3, h4, h5, h6⟩ := hi i p hp
  exact ⟨y, ha, Nat.lt_of_lt_of_le hy hg.size, m, s, a1, c1, a2, c2, (hg.cell (by rw [add_block']; exact hy)).trans h0, (hg.cell (by rw [add_block', add_block']; exact hy)).trans h1, (hg.cell (by rw [add_block', add_block']; exact hy)).trans h2, (hg.cell (by rw [add_block', add_block']; exact hy)).trans h3, h4.grow hg, h5.grow hg, h6⟩
/-- how much there is -/
def sizeT (l : List TSh) : Nat := (l.map fun p => p.rows.length + p.rs.length).sum
theorem sizeT_take {l : List TSh} {k : Nat} {p : TSh} (h : l[k]? = some p) : sizeT (l.take (k + 1)) = sizeT (l.take k) + (p.rows.length + p.rs.length) := by
  unfold sizeT; rw [List.take_add_one, h, List.map_append, List.sum_append]; simp
theorem sizeT_zero (l : List TSh) : sizeT (l.take 0) = 0 := rfl
set_option maxRecDepth 100000 in
set_option maxHeartbeats 8000000 in
theorem many18_ok {w : World} {v : Value} {l : List TSh} (h : TShIn w v l) (hl : l.length ≤ 9223372036854775807) (most : Nat) (hm : most ≤ 100000) :
    Calls Try.prog 32 #[v, .int .i64 (most : Int)] w fun e w' => ∃ b, e = .returned (.bool b) ∧ Grow w w' ∧ (b = false → l.length ≤ 60 ∧ sizeT l ≤ most) := by
  have HT := Lib.hid h
  obtain ⟨a, cap, hv, _⟩ := h
  subst hv
  obtain ⟨n, hn⟩ : ∃ n, n = l.length := ⟨_, rfl⟩
  have HN := Lib.hid hn
  rw [← hn] at hl HT ⊢
  clear hn
  by_cases h60 : 60 < n
  · have d0 : decide ((60 : Int) < (n : Int)) = true := by simp; omega
    go_enter Try.func32, Try.ntmps32
    go_wp2
    go_ret
    exact ⟨true, rfl, Grow.refl _, fun h => by cases h⟩
  · have d0 : decide ((60 : Int) < (n : Int)) = false := by simp; omega
    go_enter Try.func32, Try.ntmps32
    go_wp2
    go_loopw [5, 6] (fun t5 t6 wr => ∃ i q : Nat, t6 = .int .i64 (i : Int) ∧ t5 = .int .i64 (q : Int) ∧ i ≤ n ∧ q ≤ most ∧ Hid (Grow w wr ∧ q + sizeT (l.take i) = most)) (fun _ t6 _ => n - (intOf t6).toNat)
    case atStart => exact ⟨0, most, by go_num, rfl, by omega, by omega, Lib.hid ⟨Grow.refl _, by rw [sizeT_zero]; omega⟩⟩
    case round =>
      obtain ⟨i, q, rfl, rfl, hin, hqm, HI⟩ := hrel
      by_cases hi : i < n
      · obtain ⟨p, hp⟩ : ∃ p, l[i]? = some p := ⟨l[i]'(by rw [← HN.out]; exact hi), by simp⟩
        obtain ⟨a', cap', hv', hel⟩ := HT.out.grow HI.out.1
        rw [← HN.out] at hv'
        cases hv'
        obtain ⟨y, rfl, hyb, m, s, a1, c1, a2, c2, h0, h1, h2, h3, _, _, hR, hS⟩ := hel i p hp
        have h1' : wr.cell? { block := (y.add (i * 4)).block, off := (y.add (i * 4)).off + 1 } = some (.slice a1 p.rows.length c1) := h1
        have h2' : wr.cell? { block := (y.add (i * 4)).block, off := (y.add (i * 4)).off + 2 } = some (.slice a2 p.rs.length c2) := h2
        have HP := Lib.hid hp
        have HS1 := Lib.hid (sizeT_take hp)
        obtain ⟨R, hRe⟩ : ∃ R, R = p.rows.length := ⟨_, rfl⟩
        obtain ⟨S, hSe⟩ : ∃ S, S = p.rs.length := ⟨_, rfl⟩
        rw [← hRe] at h1' hR HS1
        rw [← hSe] at h2' hS HS1
        have hi0 : (0 : Int) ≤ (i : Int) := by omega
        have hi1 : (i : Int) < (n : Int) := by omega
        have HYB := Lib.hid (show (y.add (i * 4)).block < wr.heap.size by rw [add_block']; exact hyb)
        clear h0 h1 h2 h3 hel hp hRe hSe
        by_cases hr : q < R
        · have d1 : decide ((q : Int) < (R : Int)) = true := by simp; omega
          clear h2'
          go_upto_region 7 with (fail)
          go_quiet (fail)
          go_wp2
          have HG := Lib.hid (Grow.trans HI.out.1 (grow_drewN wr nq))
          go_ret
          exact ⟨true, rfl, HG.out, fun h => by cases h⟩
        · have d1 : decide ((q : Int) < (R : Int)) = false := by simp; omega
          have hw1 : IntKind.i64.wrap ((q : Int) - (R : Int)) = (q : Int) - (R : Int) := by rw [IntKind.wrap_i64]; omega
          by_cases hs : q - R < S
          · have d2 : decide ((q : Int) - (R : Int) < (S : Int)) = true := by simp; omega
            go_upto_region 7 with (fail)
            go_quiet (fail)
            go_wp2
            have HG := Lib.hid (Grow.trans HI.out.1 (grow_drewN wr nq))
            go_ret
            exact ⟨true, rfl, HG.out, fun h => by cases h⟩
          · have d2 : decide ((q : Int) - (R : Int) < (S : Int)) = false := by simp; omega
            go_upto_region 7 with (fail)
            go_quiet (fail)
            have HG := Lib.hid (grow_drewN wr nq)
            have k1 := (HG.out.cell (p := { block := (y.add (i * 4)).block, off := (y.add (i * 4)).off + 1 }) HYB.out).trans h1'
            have k2 := (HG.out.cell (p := { block := (y.add (i * 4)).block, off := (y.add (i * 4)).off + 2 }) HYB.out).trans h2'
            have hw2 : IntKind.i64.wrap ((q : Int) - (R : Int) - (S : Int)) = (q : Int) - (R : Int) - (S : Int) := by rw [IntKind.wrap_i64]; omega
            generalize wr.drewN nq = w2 at *
            clear h1' h2' d0
            go_upto_region 9 with (fail)
            go_quiet (fail)
            go_wp2
            go_roundw
            case rel =>
              refine ⟨i + 1, q - R - S, by go_num, ?_, by omega, by omega, Lib.hid ⟨Grow.trans (Grow.trans HI.out.1 HG.out) (grow_drewN w2 _), ?_⟩⟩
              · show Value.int IntKind.i64 _ = Value.int IntKind.i64 _
                congr 1
                omega
              · rw [HS1.out]; have := HI.out.2; omega
            case measure => simp [intOf]; omega
      · obtain rfl : i = n := by omega
        have HF := Lib.hid (show l.length ≤ 60 ∧ sizeT l ≤ most by have h1 := HI.out.2; have h2 := HN.out; rw [h2, List.take_length] at h1; exact ⟨by omega, by omega⟩)
        have HG := Lib.hid HI.out.1
        go_wp2
        go_ret
        exact ⟨false, rfl, HG.out, fun _ => by have := HF.out; have := HN.out; exact ⟨by omega, HF.out.2⟩⟩
#print axioms many18_ok
end Go.Proofs.Ytlhhbkpocpnebaa
