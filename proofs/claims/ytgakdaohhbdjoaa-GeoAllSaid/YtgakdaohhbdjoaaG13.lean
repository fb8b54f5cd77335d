/- geo.Blocks, geo.Data, geo.What for whatever geometry; the law's awake. -/
import Derived.Test.YtgakdaohhbdjoaaG12
import Derived.Test.YtgakdaohhbdjoaaG9
set_option linter.unusedVariables false
set_option linter.unusedSimpArgs false
namespace Go.Proofs.Ytgakdaohhbdjoaa
open Go.RowKit Go.Shelf

def nBlocks (gr sz ni jr : Int) : Int := if May gr sz ni jr then 2 + jr + gr * sz else 0
def nData (gr sz ni jr : Int) : Int := if May gr sz ni jr then sz - 2 - ni / 4 else 0
set_option maxHeartbeats 1000000 in
theorem blocks_any (gr sz ni jr : Int) (w : World) :
    Calls Try.prog 22 #[gv gr sz ni jr] w fun e w' => e = .returned (.int .i64 (nBlocks gr sz ni jr)) ∧ Grow w w' := by
  by_cases h : May gr sz ni jr
  · have HM := Lib.hid h
    have HE := Lib.hid (show nBlocks gr sz ni jr = 2 + jr + gr * sz from if_pos h)
    obtain ⟨h1, h2, h3, h4, h5, h6, h7, h8, h9, h10, h11⟩ := h
    have hb := mul_bd h1 h2 h3 h4
    clear h7 h10
    go_enter Try.func22, Try.ntmps22
    go_wp2_with fail
    refine (may_yes gr sz ni jr HM.out _).mono ?_
    rintro e w1 ⟨rfl, hg⟩
    obtain ⟨c0, c1, c2, c3⟩ := box_at hg
    have HG := Lib.hid hg
    clear hg
    go_wp2_with fail
    go_ret
    exact ⟨ret_int HE.out.symm, (Grow.alloc _ _).trans HG.out⟩
  · have HM := Lib.hid h
    have HE := Lib.hid (show nBlocks gr sz ni jr = 0 from if_neg h)
    clear h
    go_enter Try.func22, Try.ntmps22
    go_wp2_with fail
    refine (may_no gr sz ni jr HM.out _).mono ?_
    rintro e w1 ⟨rfl, hg⟩
    have HG := Lib.hid hg
    clear hg
    go_wp2_with fail
    go_ret
    exact ⟨ret_int HE.out.symm, (Grow.alloc _ _).trans HG.out⟩
set_option maxHeartbeats 1000000 in
theorem data_any (gr sz ni jr : Int) (w : World) :
    Calls Try.prog 26 #[gv gr sz ni jr] w fun e w' => e = .returned (.int .i64 (nData gr sz ni jr)) ∧ Grow w w' := by
  by_cases h : May gr sz ni jr
  · have HM := Lib.hid h
    have HE := Lib.hid (show nData gr sz ni jr = sz - 2 - ni / 4 from if_pos h)
    obtain ⟨h1, h2, h3, h4, h5, h6, h7, h8, h9, h10, h11⟩ := h
    clear h7 h11
    go_enter Try.func26, Try.ntmps26
    go_wp2_with fail
    refine (may_yes gr sz ni jr HM.out _).mono ?_
    rintro e w1 ⟨rfl, hg⟩
    obtain ⟨c0, c1, c2, c3⟩ := box_at hg
    have HG := Lib.hid hg
    clear hg
    go_wp2_with fail
    go_ret
    exact ⟨ret_int HE.out.symm, (Grow.alloc _ _).trans HG.out⟩
  · have HM := Lib.hid h
    have HE := Lib.hid (show nData gr sz ni jr = 0 from if_neg h)
    clear h
    go_enter Try.func26, Try.ntmps26
    go_wp2_with fail
    refine (may_no gr sz ni jr HM.out _).mono ?_
    rintro e w1 ⟨rfl, hg⟩
    have HG := Lib.hid hg
    clear hg
    go_wp2_with fail
    go_ret
    exact ⟨ret_int HE.out.symm, (Grow.alloc _ _).trans HG.out⟩

def startOf (gr sz ni jr k : Int) : Value := if May gr sz ni jr ∧ 0 ≤ k ∧ k < gr then .tuple #[.int .i64 (2 + jr + k * sz), .bool true] else .tuple #[.int .i64 0, .bool false]
theorem start_any (gr sz ni jr k : Int) (w : World) :
    Calls Try.prog 16 #[gv gr sz ni jr, .int .i64 k] w fun e w' => e = .returned (startOf gr sz ni jr k) ∧ Grow w w' := by
  unfold startOf
  by_cases h : May gr sz ni jr ∧ 0 ≤ k ∧ k < gr
  · rw [if_pos h]; exact start_yes gr sz ni jr k h.1 h.2.1 h.2.2 w
  · rw [if_neg h]
    refine start_no gr sz ni jr k ?_ w
    by_cases a : May gr sz ni jr
    · by_cases b : k < 0
      · exact .inr (.inl b)
      · exact .inr (.inr (Classical.byContradiction fun c => h ⟨a, by omega, by omega⟩))
    · exact .inl a

theorem hit_of (b : Nat) (y : Pt) (h : y.fr + y.size ≤ 100000) : hitB (b : Int) y = decide (b < y.fr + y.size) := by
  unfold hitB
  rw [IntWalk.i64_in _ (by omega)]
  rw [decide_eq_decide]
  omega
theorem at_of (b : Nat) (y : Pt) (h : y.fr ≤ b) (h1 : b ≤ 100000) (h2 : y.place ≤ 100000) : atOf (b : Int) y = ((y.place + (b - y.fr) : Nat) : Int) := by
  unfold atOf
  rw [IntWalk.i64_in _ (show -9223372036854775808 ≤ (y.place : Int) + (b : Int) ∧ (y.place : Int) + (b : Int) ≤ 9223372036854775807 by omega), IntWalk.i64_in _ (by omega)]
  omega
def thV (t : Th) : Value := .tuple #[.int .u8 (t.kind : Int), .int .i64 (t.group : Int), .int .i64 (t.pos : Int)]
theorem find_grp (gr sz ni jr b : Nat) (hs : sz ≤ 512) (hj : jr ≤ 256) (hn : 2 + ni / 4 ≤ sz) (hb : 2 + jr ≤ b) : ∀ g, g ≤ 4 → (if b < 2 + jr + g * sz then ∃ y, ((List.range g).flatMap (own4 sz ni jr)).find? (hitB (b : Int)) = some y ∧ whatV b (some y) = thV (whatT sz ni jr b) else ((List.range g).flatMap (own4 sz ni jr)).find? (hitB (b : Int)) = none) := by
  intro g
  induction g with
  | zero => intro _; rw [if_neg (by omega)]; rfl
  | succ g ih =>
    intro hg
    have ih := ih (by omega)
    have hgs : g * sz ≤ 4 * 512 := Nat.mul_le_mul (by omega) hs
    have e1 : (g + 1) * sz = g * sz + sz := by rw [Nat.add_mul, Nat.one_mul]
    rw [upto_grp, List.find?_append, e1]
    by_cases h : b < 2 + jr + g * sz
    · rw [if_pos h] at ih
      obtain ⟨y, hy, hv⟩ := ih
      rw [if_pos (by omega)]
      exact ⟨y, by rw [hy]; rfl, hv⟩
    · rw [if_neg h] at ih
      rw [ih, Option.none_or]
      obtain ⟨y, hy⟩ : ∃ y, b = 2 + jr + (g * sz + y) := ⟨b - 2 - jr - g * sz, by omega⟩
      have hw := fun h => what_grp sz ni jr g y h
      rw [← hy] at hw
      generalize hss : g * sz = s at *
      unfold own4
      rw [hss]
      by_cases a0 : y < sz
      · rw [if_pos (by omega), hw a0]
        clear hw ih
        simp only [List.find?_cons]
        rw [hit_of b ⟨4, g, 2 + jr + s, 1, 0⟩ (by dsimp only; omega), hit_of b ⟨5, g, 2 + jr + s + 1, 1, 1⟩ (by dsimp only; omega), hit_of b ⟨6, g, 2 + jr + s + 2, ni / 4, 2⟩ (by dsimp only; omega), hit_of b ⟨7, g, 2 + jr + s + 2 + ni / 4, sz - 2 - ni / 4, 2 + ni / 4⟩ (by dsimp only; omega)]
        dsimp only
        by_cases a1 : y < 1
        · rw [decide_eq_true (by omega)]
          refine ⟨_, rfl, ?_⟩
          rw [if_pos (by omega)]
          simp only [whatV, thV]
          rw [at_of b _ (by dsimp only; omega) (by omega) (by dsimp only; omega)]
          obtain rfl : y = 0 := by omega
          dsimp only
          rw [show 0 + (b - (2 + jr + s)) = 0 by omega]
        rw [decide_eq_false (by omega)]
        dsimp only
        by_cases a2 : y < 2
        · rw [decide_eq_true (by omega)]
          refine ⟨_, rfl, ?_⟩
          rw [if_pos (by omega)]
          simp only [whatV, thV]
          rw [at_of b _ (by dsimp only; omega) (by omega) (by dsimp only; omega)]
          obtain rfl : y = 1 := by omega
          dsimp only
          rw [show 1 + (b - (2 + jr + s + 1)) = 1 by omega]
        rw [decide_eq_false (by omega)]
        dsimp only
        by_cases a3 : y < 2 + ni / 4
        · rw [decide_eq_true (by omega)]
          refine ⟨_, rfl, ?_⟩
          rw [if_neg (by omega), if_pos (by omega)]
          simp only [whatV, thV]
          rw [at_of b _ (by dsimp only; omega) (by omega) (by dsimp only; omega)]
          dsimp only
          rw [show 2 + (b - (2 + jr + s + 2)) = y by omega]
        rw [decide_eq_false (by omega)]
        dsimp only
        rw [decide_eq_true (by omega)]
        refine ⟨_, rfl, ?_⟩
        rw [if_neg (by omega), if_neg (by omega)]
        simp only [whatV, thV]
        rw [at_of b _ (by dsimp only; omega) (by omega) (by dsimp only; omega)]
        dsimp only
        rw [show 2 + ni / 4 + (b - (2 + jr + s + 2 + ni / 4)) = y by omega]
      · rw [if_neg (by omega)]
        simp only [List.find?_cons]
        rw [hit_of b ⟨4, g, 2 + jr + s, 1, 0⟩ (by dsimp only; omega), hit_of b ⟨5, g, 2 + jr + s + 1, 1, 1⟩ (by dsimp only; omega), hit_of b ⟨6, g, 2 + jr + s + 2, ni / 4, 2⟩ (by dsimp only; omega), hit_of b ⟨7, g, 2 + jr + s + 2 + ni / 4, sz - 2 - ni / 4, 2 + ni / 4⟩ (by dsimp only; omega)]
        dsimp only
        rw [decide_eq_false (by omega)]
        dsimp only
        rw [decide_eq_false (by omega)]
        dsimp only
        rw [decide_eq_false (by omega)]
        dsimp only
        rw [decide_eq_false (by omega)]
        rfl

def zero3 : Value := .tuple #[.int .u8 0, .int .i64 0, .int .i64 0]
theorem find_what (gr sz ni jr b : Nat) (hM : May gr sz ni jr) : whatV b ((partsOf gr sz ni jr).find? (hitB (b : Int))) = if b < 2 + jr + gr * sz then thV (whatT sz ni jr b) else zero3 := by
  obtain ⟨h1, h2, h3, h4, h5, h6, h7, h8, h9, h10, h11⟩ := hM
  have hgs : gr * sz ≤ 4 * 512 := Nat.mul_le_mul (by omega) (by omega)
  unfold partsOf
  rw [List.find?_append]
  unfold hd3
  simp only [List.find?_cons, List.find?_nil]
  rw [hit_of b ⟨1, 0, 0, 1, 0⟩ (by dsimp only; omega), hit_of b ⟨2, 0, 1, 1, 0⟩ (by dsimp only; omega), hit_of b ⟨3, 0, 2, jr, 0⟩ (by dsimp only; omega)]
  dsimp only
  by_cases a1 : b < 1
  · rw [decide_eq_true (by omega), if_pos (by omega)]
    obtain rfl : b = 0 := by omega
    dsimp only [Option.some_or]
    simp only [whatV, thV]
    rw [at_of 0 _ (by dsimp only; omega) (by omega) (by dsimp only; omega)]
    rfl
  rw [decide_eq_false (by omega)]
  by_cases a2 : b < 2
  · rw [decide_eq_true (by omega), if_pos (by omega)]
    obtain rfl : b = 1 := by omega
    dsimp only [Option.some_or]
    simp only [whatV, thV]
    rw [at_of 1 _ (by dsimp only; omega) (by omega) (by dsimp only; omega)]
    rfl
  rw [decide_eq_false (by omega)]
  by_cases a3 : b < 2 + jr
  · rw [decide_eq_true (by omega), if_pos (by omega)]
    dsimp only [Option.some_or]
    simp only [whatV, thV]
    rw [at_of b _ (by dsimp only; omega) (by omega) (by dsimp only; omega)]
    unfold whatT
    rw [if_neg (by omega), if_pos (by omega)]
    dsimp only
    rw [Nat.zero_add]
  rw [decide_eq_false (by omega)]
  dsimp only
  rw [Option.none_or]
  have hf := find_grp gr sz ni jr b (by omega) (by omega) (by omega) (by omega) gr (by omega)
  by_cases a4 : b < 2 + jr + gr * sz
  · rw [if_pos a4] at hf ⊢
    obtain ⟨y, hy, hv⟩ := hf
    rw [hy, hv]
  · rw [if_neg a4] at hf ⊢
    rw [hf]
    rfl
/-- what a block is, for whatever geometry and number -/
def whatOf (gr sz ni jr bl : Int) : Value :=
  if May gr sz ni jr ∧ 0 ≤ bl ∧ bl < nBlocks gr sz ni jr then thV (whatT sz.toNat ni.toNat jr.toNat bl.toNat) else zero3
theorem five_cells {w w1 : World} {gr sz ni jr bl : Int} (h : Grow (((((w.alloc (gbox gr sz ni jr)).alloc (.cells #[.int .i64 bl] 3)).alloc (.cells #[.int .u8 0] 5)).alloc (.cells #[.int .i64 0] 3)).alloc (.cells #[.int .i64 0] 3)) w1) :
    w1.cell? ⟨w.heap.size + 1, 0, none⟩ = some (.int .i64 bl) ∧ w1.cell? ⟨w.heap.size + 1 + 1, 0, none⟩ = some (.int .u8 0) ∧ w1.cell? ⟨w.heap.size + 1 + 1 + 1, 0, none⟩ = some (.int .i64 0) ∧ w1.cell? ⟨w.heap.size + 1 + 1 + 1 + 1, 0, none⟩ = some (.int .i64 0) ∧
    w1.frozen? ⟨w.heap.size + 1 + 1, 0, none⟩ = false ∧ w1.frozen? ⟨w.heap.size + 1 + 1 + 1, 0, none⟩ = false ∧ w1.frozen? ⟨w.heap.size + 1 + 1 + 1 + 1, 0, none⟩ = false ∧ w.heap.size + 5 ≤ w1.heap.size ∧ Grow w w1 := by
  have hs := Below.size h
  have hc : ∀ b o, b < w.heap.size + 5 → w1.cell? ⟨b, o, none⟩ = _ := fun b o hb => Below.cell h (p := ⟨b, o, none⟩) (by simp; omega)
  have hf : ∀ b o, b < w.heap.size + 5 → w1.frozen? ⟨b, o, none⟩ = _ := fun b o hb => Below.frozen h (p := ⟨b, o, none⟩) (by simp; omega)
  have hg : Grow w w1 := (((((Grow.alloc w _).trans (Grow.alloc _ _)).trans (Grow.alloc _ _)).trans (Grow.alloc _ _)).trans (Grow.alloc _ _)).trans h
  refine ⟨?_, ?_, ?_, ?_, ?_, ?_, ?_, by simp at hs; omega, hg⟩
  all_goals first | rw [hc _ _ (by omega)] | rw [hf _ _ (by omega)]
  all_goals go_simp
theorem what_end {w w1 : World} (c4 : w1.cell? ⟨w.heap.size + 1 + 1, 0, none⟩ = some (.int .u8 0)) (c5 : w1.cell? ⟨w.heap.size + 1 + 1 + 1, 0, none⟩ = some (.int .i64 0)) (c6 : w1.cell? ⟨w.heap.size + 1 + 1 + 1 + 1, 0, none⟩ = some (.int .i64 0)) (hg : Grow w w1) :
    ∃ W3, W3 = ((w1.setCell ⟨w.heap.size + 1 + 1, 0, none⟩ (.int .u8 0)).setCell ⟨w.heap.size + 1 + 1 + 1, 0, none⟩ (.int .i64 0)).setCell ⟨w.heap.size + 1 + 1 + 1 + 1, 0, none⟩ (.int .i64 0) ∧
      W3.cell? ⟨w.heap.size + 1 + 1, 0, none⟩ = some (.int .u8 0) ∧ W3.cell? ⟨w.heap.size + 1 + 1 + 1, 0, none⟩ = some (.int .i64 0) ∧ W3.cell? ⟨w.heap.size + 1 + 1 + 1 + 1, 0, none⟩ = some (.int .i64 0) ∧ Grow w W3 := by
  refine ⟨_, rfl, by go_simp, by go_simp, by go_simp, ?_⟩
  exact ((Below.setCell (p := ⟨w.heap.size + 1 + 1, 0, none⟩) hg (by simp; omega) _).setCell (p := ⟨w.heap.size + 1 + 1 + 1, 0, none⟩) (by simp; omega) _).setCell (p := ⟨w.heap.size + 1 + 1 + 1 + 1, 0, none⟩) (by simp; omega) _
set_option maxHeartbeats 1000000 in
theorem what_any (gr sz ni jr bl : Int) (w : World) :
    Calls Try.prog 18 #[gv gr sz ni jr, .int .i64 bl] w fun e w' => e = .returned (whatOf gr sz ni jr bl) ∧ Grow w w' := by
  by_cases h : May gr sz ni jr
  · by_cases h0 : 0 ≤ bl
    · obtain ⟨a, b, c, d, rfl, rfl, rfl, rfl⟩ := may_nat h
      obtain ⟨x, rfl⟩ : ∃ x : Nat, bl = x := ⟨bl.toNat, by omega⟩
      refine (what_may a b c d x h h0 w).mono fun e w' ⟨he, hg⟩ => ⟨?_, hg⟩
      rw [he, find_what a b c d x h]
      unfold whatOf nBlocks
      have e1 : ((a : Int) * (b : Int)) = ((a * b : Nat) : Int) := by simp
      rw [if_pos h, e1]
      by_cases hx : x < 2 + d + a * b
      · rw [if_pos hx, if_pos ⟨h, h0, by omega⟩]
        simp
      · rw [if_neg hx, if_neg (fun k => hx (by omega))]
    · have HM := Lib.hid h
      have HE := Lib.hid (show whatOf gr sz ni jr bl = zero3 from if_neg (fun k => h0 k.2.1))
      have hb : bl < 0 := by omega
      clear h h0
      go_enter Try.func18, Try.ntmps18
      go_wp2_with fail
      refine (may_yes gr sz ni jr HM.out _).mono ?_
      rintro e w1 ⟨rfl, hg⟩
      obtain ⟨cb, c4, c5, c6, z4, z5, z6, hsz, hgw⟩ := five_cells hg
      have HC := Lib.hid (what_end c4 c5 c6 hgw)
      clear hg hgw
      go_wp2_with fail
      obtain ⟨W3, hW3, k4, k5, k6, hg3⟩ := HC.out
      rw [← hW3]
      exact bodyPost_ret (v := zero3) (by simp [results, Try.results18, go_sem, k4, k5, k6, zero3]) rfl ⟨by rw [HE.out], hg3⟩
  · have HM := Lib.hid h
    have HE := Lib.hid (show whatOf gr sz ni jr bl = zero3 from if_neg (fun k => h k.1))
    clear h
    go_enter Try.func18, Try.ntmps18
    go_wp2_with fail
    refine (may_no gr sz ni jr HM.out _).mono ?_
    rintro e w1 ⟨rfl, hg⟩
    obtain ⟨cb, c4, c5, c6, z4, z5, z6, hsz, hgw⟩ := five_cells hg
    have HC := Lib.hid (what_end c4 c5 c6 hgw)
    clear hg hgw
    go_wp2_with fail
    obtain ⟨W3, hW3, k4, k5, k6, hg3⟩ := HC.out
    rw [← hW3]
    exact bodyPost_ret (v := zero3) (by simp [results, Try.results18, go_sem, k4, k5, k6, zero3]) rfl ⟨by rw [HE.out], hg3⟩
#print axioms what_any
end Go.Proofs.Ytgakdaohhbdjoaa
