/- What geo.What tells of a block: the first of the parts that ends behind it. -/
import Derived.Test.YtgakdaohhbdjoaaG11
set_option linter.unusedVariables false
set_option linter.unusedSimpArgs false
namespace Go.Proofs.Ytgakdaohhbdjoaa
open Go.RowKit Go.Shelf
attribute [local go_sem] Oper.semAt_some

def hitB (bl : Int) (y : Pt) : Bool := decide (bl < IntKind.i64.wrap ((y.fr : Int) + (y.size : Int)))
def atOf (bl : Int) (y : Pt) : Int := IntKind.i64.wrap (IntKind.i64.wrap ((y.place : Int) + bl) - (y.fr : Int))
def whatV (bl : Int) : Option Pt → Value
  | none => .tuple #[.int .u8 0, .int .i64 0, .int .i64 0]
  | some y => .tuple #[.int .u8 (y.kind : Int), .int .i64 (y.group : Int), .int .i64 (atOf bl y)]
theorem find_none (bl : Int) (l : List Pt) (h : ∀ y ∈ l, hitB bl y = false) : l.find? (hitB bl) = none := by
  rw [List.find?_eq_none]; intro x hx; rw [h x hx]; simp
theorem find_at (bl : Int) (l pre : List Pt) (x : Pt) (hp : pre ++ [x] <+: l) (h : ∀ y ∈ pre, hitB bl y = false) (hx : hitB bl x = true) : l.find? (hitB bl) = some x := by
  obtain ⟨t, rfl⟩ := hp
  rw [List.append_assoc, List.find?_append, find_none bl pre h]
  simp [hx]
/-- the cells of a part -/
def PtAt (W : World) (B : Nat) (x : Pt) : Prop :=
  W.cell? ⟨B, 0, none⟩ = some (.int .u8 (x.kind : Int)) ∧ W.cell? ⟨B, 1, none⟩ = some (.int .i64 (x.group : Int)) ∧ W.cell? ⟨B, 2, none⟩ = some (.int .i64 (x.fr : Int)) ∧ W.cell? ⟨B, 3, none⟩ = some (.int .i64 (x.size : Int)) ∧ W.cell? ⟨B, 4, none⟩ = some (.int .i64 (x.place : Int))
theorem PtAt.kept {A W : World} {row : Option Nat} {B : Nat} {x : Pt} (h : PtAt A B x) (hg : A.grownBy W row) (hr : ∀ r, row = some r → ∃ o : Obj, A.heap[r]? = some o ∧ o.isCells = false) : PtAt W B x :=
  ⟨cell_kept h.1 hg hr, cell_kept h.2.1 hg hr, cell_kept h.2.2.1 hg hr, cell_kept h.2.2.2.1 hg hr, cell_kept h.2.2.2.2 hg hr⟩

theorem five_boxes {w w1 : World} {gr sz ni jr : Nat} {bl : Int} (h : Grow (((((w.alloc (gbox gr sz ni jr)).alloc (.cells #[.int .i64 bl] 3)).alloc (.cells #[.int .u8 0] 5)).alloc (.cells #[.int .i64 0] 3)).alloc (.cells #[.int .i64 0] 3)) w1) :
    GAt w1 w.heap.size gr sz ni jr ∧ w1.cell? ⟨w.heap.size + 1, 0, none⟩ = some (.int .i64 bl) ∧ w1.cell? ⟨w.heap.size + 1 + 1, 0, none⟩ = some (.int .u8 0) ∧ w1.cell? ⟨w.heap.size + 1 + 1 + 1, 0, none⟩ = some (.int .i64 0) ∧ w1.cell? ⟨w.heap.size + 1 + 1 + 1 + 1, 0, none⟩ = some (.int .i64 0) ∧
    w1.frozen? ⟨w.heap.size + 1 + 1, 0, none⟩ = false ∧ w1.frozen? ⟨w.heap.size + 1 + 1 + 1, 0, none⟩ = false ∧ w1.frozen? ⟨w.heap.size + 1 + 1 + 1 + 1, 0, none⟩ = false ∧ w.heap.size + 5 ≤ w1.heap.size ∧ Grow w w1 := by
  have hs := Below.size h
  have hc : ∀ b o, b < w.heap.size + 5 → w1.cell? ⟨b, o, none⟩ = _ := fun b o hb => Below.cell h (p := ⟨b, o, none⟩) (by simp; omega)
  have hf : ∀ b o, b < w.heap.size + 5 → w1.frozen? ⟨b, o, none⟩ = _ := fun b o hb => Below.frozen h (p := ⟨b, o, none⟩) (by simp; omega)
  have hg : Grow w w1 := (((((Grow.alloc w _).trans (Grow.alloc _ _)).trans (Grow.alloc _ _)).trans (Grow.alloc _ _)).trans (Grow.alloc _ _)).trans h
  refine ⟨⟨?_, ?_, ?_, ?_⟩, ?_, ?_, ?_, ?_, ?_, ?_, ?_, by simp at hs; omega, hg⟩
  all_goals first | rw [hc _ _ (by omega)] | rw [hf _ _ (by omega)]
  all_goals go_simp

set_option maxRecDepth 100000 in
set_option maxHeartbeats 2000000 in
theorem what_may (gr sz ni jr : Nat) (bl : Int) (hM : May gr sz ni jr) (h0 : 0 ≤ bl) (w : World) :
    Calls Try.prog 18 #[gv gr sz ni jr, .int .i64 bl] w fun e w' => e = .returned (whatV bl ((partsOf gr sz ni jr).find? (hitB bl))) ∧ Grow w w' := by
  have hro : Fence.wide.round = none := rfl
  have HM := Lib.hid hM
  clear hM
  refine (callsIn_wide (n := 6)).1 ?_
  refine callsIn_of_wp_marks Try.func18 rfl trivial ?_ hro
  simp only [Try.ntmps18, List.size_toArray, List.length_cons, List.length_nil, Nat.reduceAdd, Nat.reduceSub, Array.replicate_succ, Array.replicate_zero, List.push_toArray, List.append_toArray, List.nil_append, List.cons_append]
  have hb0 : decide (bl < 0) = false := by simpa using h0
  gi_wp2_with fail
  refine ⟨trivial, (callsIn_wide.2 (may_yes gr sz ni jr HM.out _)).mono ?_⟩
  rintro e w1 ⟨rfl, hg⟩
  obtain ⟨cg, cb, c4, c5, c6, z4, z5, z6, hsz, hgw⟩ := five_boxes hg
  have HC := Lib.hid (⟨cb, c4, c5, c6, z4, z5, z6, hsz, hgw⟩ : _ ∧ _ ∧ _ ∧ _ ∧ _ ∧ _ ∧ _ ∧ _ ∧ _)
  clear hg c4 c5 c6 z4 z5 z6 hsz hgw
  obtain ⟨d0, d1, d2, d3⟩ := cg
  gi_wp2_with fail
  refine ⟨trivial, (parts_in 5 gr sz ni jr w1).mono ?_⟩
  rintro e w2 ⟨rfl, rfl⟩
  clear d0 d1 d2 d3 cb hb0
  gi_wp2_with fail
  obtain ⟨W0, hW0⟩ : ∃ W0, w1.alloc (gbox gr sz ni jr) = W0 := ⟨_, rfl⟩
  have hs0 : W0.heap.size = w1.heap.size + 1 := by rw [← hW0]; simp
  have hG0 : GAt W0 w1.heap.size gr sz ni jr := by rw [← hW0]; exact box_at (Grow.refl _)
  obtain ⟨cb, c4, c5, c6, z4, z5, z6, hsz, hgw⟩ := HC.out
  have hcc : ∀ (b o : Nat) (v : Value), b < w1.heap.size → w1.cell? ⟨b, o, none⟩ = some v → W0.cell? ⟨b, o, none⟩ = some v := fun b o v hb h => by
    rw [← hW0]; exact (Below.cell (Grow.alloc w1 _) (p := ⟨b, o, none⟩) hb).trans h
  have hff : ∀ (b o : Nat), b < w1.heap.size → w1.frozen? ⟨b, o, none⟩ = false → W0.frozen? ⟨b, o, none⟩ = false := fun b o hb h => by
    rw [← hW0]; exact (Below.frozen (Grow.alloc w1 _) (p := ⟨b, o, none⟩) hb).trans h
  have e4 := hcc _ _ _ (by omega) c4
  have e5 := hcc _ _ _ (by omega) c5
  have e6 := hcc _ _ _ (by omega) c6
  have eb := hcc _ _ _ (by omega) cb
  have y4 := hff _ _ (by omega) z4
  have y5 := hff _ _ (by omega) z5
  have y6 := hff _ _ (by omega) z6
  have hgw0 : Grow w W0 := by rw [← hW0]; exact hgw.trans (Grow.alloc _ _)
  rw [hW0]
  have HF := Lib.hid (⟨e4, e5, e6, eb, y4, y5, y6, hgw0, hG0⟩ : _ ∧ _ ∧ _ ∧ _ ∧ _ ∧ _ ∧ _ ∧ _ ∧ _)
  clear e4 e5 e6 eb y4 y5 y6 hgw0 hG0 hcc hff cb c4 c5 c6 z4 z5 z6 hgw HC hW0
  refine wpIn_rangeFunc_ownH (n := 6) hro (by omega) (gf := 31) (lb := #[.pointer (some ⟨w1.heap.size, 0, none⟩)]) rfl trivial (enters_of Try.func31 (by kernel_rfl) rfl)
    (parts_stops 5 (by omega) w1.heap.size (w1.heap.size + 1) gr sz ni jr HM.out W0 (by omega) (by omega) HF.out.2.2.2.2.2.2.2.2) belowK_t (belowK_b (by omega)) (Below.refl _ _) (fun _ => rfl)
    (fun pre W => (∀ y ∈ pre, hitB bl y = false) ∧ Below (w1.heap.size + 1) W0 W)
    (fun c pre W => (c = .ret ∧ ∃ (pre' : List Pt) (x : Pt), pre = pre' ++ [x] ∧ (∀ y ∈ pre', hitB bl y = false) ∧ hitB bl x = true ∧ W.cell? ⟨w.heap.size + 1 + 1, 0, none⟩ = some (.int .u8 (x.kind : Int)) ∧ W.cell? ⟨w.heap.size + 1 + 1 + 1, 0, none⟩ = some (.int .i64 (x.group : Int)) ∧ W.cell? ⟨w.heap.size + 1 + 1 + 1 + 1, 0, none⟩ = some (.int .i64 (atOf bl x))) ∧ Below w.heap.size w W)
    (OwnFrom.and (ownFrom_pure _ (fun pre => ∀ y ∈ pre, hitB bl y = false)) (ownFrom_below (by omega) (by omega)))
    (fun c => OwnFrom.and (Own.from (fun s A B row hs hg hr => by obtain ⟨h1, p', x, h2, h3, h4, h5, h6, h7⟩ := hs; exact ⟨h1, p', x, h2, h3, h4, cell_kept h5 hg hr, cell_kept h6 hg hr, cell_kept h7 hg hr⟩) _) (ownFrom_below (Nat.le_refl _) (by have := Below.size HF.out.2.2.2.2.2.2.2.1; omega)))
    ⟨(fun _ h => by cases h), Below.refl _ _⟩
    (fun x a' W => ∃ Bx, w1.heap.size + 1 ≤ Bx ∧ PtAt W Bx x ∧ a' = { tmps := #[gv gr sz ni jr, .int .i64 bl, .pointer (some ⟨w.heap.size, 0, none⟩), .pointer (some ⟨w.heap.size + 1, 0, none⟩), .pointer (some ⟨w.heap.size + 1 + 1, 0, none⟩), .pointer (some ⟨w.heap.size + 1 + 1 + 1, 0, none⟩), .pointer (some ⟨w.heap.size + 1 + 1 + 1 + 1, 0, none⟩), .pointer (some ⟨Bx, 0, none⟩),
      gv gr sz ni jr, .bool true, .bool false, .bool false, .int .i64 bl, .bool false, .bool false, gv gr sz ni jr, .func (.func 31) #[] #[.pointer (some ⟨w1.heap.size, 0, none⟩)], x.v, undef, undef, undef, undef, undef, undef, undef, undef, undef, undef, undef, undef, undef, undef, undef, undef, undef, undef], defers := [] })
    (fun x a' _ A B row hs hg hr => by obtain ⟨Bx, h1, h2, h3⟩ := hs; exact ⟨Bx, h1, h2.kept hg (fun r e => (hr r e).2), h3⟩) ?assign ?body ?done ?stop
  case assign =>
    intro l pre x W K hi hK
    obtain ⟨kd, gp, fr, sz', pl⟩ := x
    have hz := hi.2.size
    dsimp only [Pt.v]
    gi_wp2
    refine hK _ _ ((KeepsOthers.alloc _ _).from _) ((Below.refl _ W).alloc (by omega) _) ⟨hi.1, hi.2.alloc (by omega) _⟩ ⟨W.heap.size, by omega, ?_, rfl⟩
    refine ⟨?_, ?_, ?_, ?_, ?_⟩ <;> rw [cell_new] <;> rfl
  case body =>
    rintro l pre x a' W hl ⟨r, hr⟩ ⟨hp, hB⟩ ⟨Bx, hBx, hx, rfl⟩ hlt
    obtain ⟨kd, gp, fr, sz', pl⟩ := x
    have hz := hB.size
    obtain ⟨e4, e5, e6, eb, y4, y5, y6, hgw0, hG0⟩ := HF.out
    have xb := (hB.cell (p := ⟨w.heap.size + 1, 0, none⟩) (by simp; omega)).trans eb
    have f4 := (hB.cell (p := ⟨w.heap.size + 1 + 1, 0, none⟩) (by simp; omega)).trans e4
    have f5 := (hB.cell (p := ⟨w.heap.size + 1 + 1 + 1, 0, none⟩) (by simp; omega)).trans e5
    have f6 := (hB.cell (p := ⟨w.heap.size + 1 + 1 + 1 + 1, 0, none⟩) (by simp; omega)).trans e6
    have g4 := (hB.frozen (p := ⟨w.heap.size + 1 + 1, 0, none⟩) (by simp; omega)).trans y4
    have g5 := (hB.frozen (p := ⟨w.heap.size + 1 + 1 + 1, 0, none⟩) (by simp; omega)).trans y5
    have g6 := (hB.frozen (p := ⟨w.heap.size + 1 + 1 + 1 + 1, 0, none⟩) (by simp; omega)).trans y6
    have HG := Lib.hid (⟨f4, f5, f6, g4, g5, g6, hgw0⟩ : _ ∧ _ ∧ _ ∧ _ ∧ _ ∧ _ ∧ _)
    clear e4 e5 e6 eb y4 y5 y6 hgw0 hG0 f4 f5 f6 g4 g5 g6
    obtain ⟨x0, x1, x2, x3, x4⟩ := hx
    dsimp only at x0 x1 x2 x3 x4
    have HP := Lib.hid hp
    have HB := Lib.hid hB
    clear hp hB
    obtain ⟨S0, hS0⟩ : ∃ S0, IntKind.i64.wrap ((fr : Int) + (sz' : Int)) = S0 := ⟨_, rfl⟩
    dsimp only [Pt.v]
    by_cases hh : bl < S0
    · have HH := Lib.hid (show hitB bl ⟨kd, gp, fr, sz', pl⟩ = true by unfold hitB; rw [hS0]; simpa using hh)
      gi_upto_region 6 with (fail)
      clear hS0
      obtain ⟨f4, f5, f6, g4, g5, g6, hgw0⟩ := HG.out
      refine reg6_in l _ Bx (w.heap.size + 1) (w.heap.size + 1 + 1) (w.heap.size + 1 + 1 + 1) (w.heap.size + 1 + 1 + 1 + 1) w.heap.size kd gp fr pl bl _ _
        (fun b => if b = w.heap.size + 1 + 1 then some (.int .u8 (kd : Int)) else if b = w.heap.size + 1 + 1 + 1 then some (.int .i64 (gp : Int)) else if b = w.heap.size + 1 + 1 + 1 + 1 then some (.int .i64 (atOf bl ⟨kd, gp, fr, sz', pl⟩)) else none) W x0 x1 x2 x4 xb
        (by rw [if_neg (by omega), if_neg (by omega), if_neg (by omega)]) (by rw [if_neg (by omega), if_neg (by omega), if_neg (by omega)]) (by rw [if_pos rfl]) (by rw [if_neg (by omega), if_pos rfl]) (by rw [if_neg (by omega), if_neg (by omega), if_pos rfl]; rfl)
        (by omega) (by omega) (by omega) (by rw [f4]; rfl) (by rw [f5]; rfl) (by rw [f6]; rfl) g4 g5 g6 rfl rfl _ _ _ _ _ _ _ _ _ _ _ _ _ _ _ _ _ _ _ _ _ _ _ _ _ _ _ _ _ _ _ _ (Lib.hid ?_)
      clear f4 f5 f6 g4 g5 g6
      intro u25 u26 u27 u28 u29 u30 u31 u32 u33 u34 u35 wz hWR k4 k5 k6
      have HW := Lib.hid hWR
      have HK := Lib.hid (⟨k4, k5, k6⟩ : _ ∧ _ ∧ _)
      clear hWR k4 k5 k6
      gi_wp2
      obtain ⟨k4, k5, k6⟩ := HK.out
      exact ⟨HW.out.2.2.2.2.1.from _, ⟨rfl, pre, _, rfl, HP.out, HH.out, k4, k5, k6⟩, Below.trans (Below.trans (show Below w.heap.size w W0 from hgw0) (HB.out.mono (by have := Below.size hgw0; omega))) HW.out.2.2.2.2.2.1⟩
    · have hh' : decide (bl < S0) = false := by simpa using hh
      have HH := Lib.hid (show hitB bl ⟨kd, gp, fr, sz', pl⟩ = false by unfold hitB; rw [hS0]; exact hh')
      gi_wp2
      refine ⟨KeepsFrom.refl _ _, Below.refl _ _, ?_, HB.out⟩
      intro y hy
      rcases List.mem_append.1 hy with h | h
      · exact HP.out y h
      · obtain rfl := List.mem_singleton.1 h; exact HH.out
  case done =>
    rintro D ys W hD rfl ⟨hp, hB⟩ hK
    obtain ⟨e4, e5, e6, eb, y4, y5, y6, hgw0, hG0⟩ := HF.out
    have hz := hB.size
    have f4 := (hB.cell (p := ⟨w.heap.size + 1 + 1, 0, none⟩) (by simp; omega)).trans e4
    have f5 := (hB.cell (p := ⟨w.heap.size + 1 + 1 + 1, 0, none⟩) (by simp; omega)).trans e5
    have f6 := (hB.cell (p := ⟨w.heap.size + 1 + 1 + 1 + 1, 0, none⟩) (by simp; omega)).trans e6
    have g4 := (hB.frozen (p := ⟨w.heap.size + 1 + 1, 0, none⟩) (by simp; omega)).trans y4
    have g5 := (hB.frozen (p := ⟨w.heap.size + 1 + 1 + 1, 0, none⟩) (by simp; omega)).trans y5
    have g6 := (hB.frozen (p := ⟨w.heap.size + 1 + 1 + 1 + 1, 0, none⟩) (by simp; omega)).trans y6
    have HN := Lib.hid (find_none bl _ hp)
    have HB2 := Lib.hid (Below.trans (show Below w.heap.size w W0 from hgw0) (hB.mono (by have := Below.size hgw0; omega)))
    have HK := Lib.hid hK
    clear e4 e5 e6 eb y4 y5 y6 hgw0 hG0 hB hp hK
    gi_wp2
    have k4 : (((W.setCell ⟨w.heap.size + 1 + 1, 0, none⟩ (.int .u8 0)).setCell ⟨w.heap.size + 1 + 1 + 1, 0, none⟩ (.int .i64 0)).setCell ⟨w.heap.size + 1 + 1 + 1 + 1, 0, none⟩ (.int .i64 0)).cell? ⟨w.heap.size + 1 + 1, 0, none⟩ = some (.int .u8 0) := by go_simp
    have k5 : (((W.setCell ⟨w.heap.size + 1 + 1, 0, none⟩ (.int .u8 0)).setCell ⟨w.heap.size + 1 + 1 + 1, 0, none⟩ (.int .i64 0)).setCell ⟨w.heap.size + 1 + 1 + 1 + 1, 0, none⟩ (.int .i64 0)).cell? ⟨w.heap.size + 1 + 1 + 1, 0, none⟩ = some (.int .i64 0) := by go_simp
    have k6 : (((W.setCell ⟨w.heap.size + 1 + 1, 0, none⟩ (.int .u8 0)).setCell ⟨w.heap.size + 1 + 1 + 1, 0, none⟩ (.int .i64 0)).setCell ⟨w.heap.size + 1 + 1 + 1 + 1, 0, none⟩ (.int .i64 0)).cell? ⟨w.heap.size + 1 + 1 + 1 + 1, 0, none⟩ = some (.int .i64 0) := by go_simp
    have hB3 : Below w.heap.size w (((W.setCell ⟨w.heap.size + 1 + 1, 0, none⟩ (.int .u8 0)).setCell ⟨w.heap.size + 1 + 1 + 1, 0, none⟩ (.int .i64 0)).setCell ⟨w.heap.size + 1 + 1 + 1 + 1, 0, none⟩ (.int .i64 0)) :=
      ((HB2.out.setCell (p := ⟨w.heap.size + 1 + 1, 0, none⟩) (by simp; omega) _).setCell (p := ⟨w.heap.size + 1 + 1 + 1, 0, none⟩) (by simp; omega) _).setCell (p := ⟨w.heap.size + 1 + 1 + 1 + 1, 0, none⟩) (by simp; omega) _
    have hK3 := (((KeepsOthers.setCell W ⟨w.heap.size + 1 + 1, 0, none⟩ (.int .u8 0)).trans (KeepsOthers.setCell _ ⟨w.heap.size + 1 + 1 + 1, 0, none⟩ (.int .i64 0))).trans (KeepsOthers.setCell _ ⟨w.heap.size + 1 + 1 + 1 + 1, 0, none⟩ (.int .i64 0))).same D _ HK.out rfl
    revert k4 k5 k6 hB3 hK3
    generalize ((W.setCell ⟨w.heap.size + 1 + 1, 0, none⟩ (.int .u8 0)).setCell ⟨w.heap.size + 1 + 1 + 1, 0, none⟩ (.int .i64 0)).setCell ⟨w.heap.size + 1 + 1 + 1 + 1, 0, none⟩ (.int .i64 0) = W3
    intro k4 k5 k6 hB3 hK3
    refine ⟨by simp, .inl ⟨_, _, rfl, run_takeDeferred hK3, ?_⟩⟩
    have hc5 := cell_kept k4 (grownBy_putObj' _ D (.deferred none)) (fun r e => by cases e; exact ⟨_, hK3, rfl⟩)
    have hc6 := cell_kept k5 (grownBy_putObj' _ D (.deferred none)) (fun r e => by cases e; exact ⟨_, hK3, rfl⟩)
    have hc7 := cell_kept k6 (grownBy_putObj' _ D (.deferred none)) (fun r e => by cases e; exact ⟨_, hK3, rfl⟩)
    refine ⟨whatV bl none, ?_, by rw [HN.out], hB3.trans (belowK_b (w := w) (Nat.le_refl _) W3 D _ _ (by omega) hK3 rfl rfl)⟩
    simp [results, Try.f18, go_sem, hc5, hc6, hc7, whatV]
  case stop =>
    rintro D c pre W hD hpre ⟨⟨rfl, p', x, rfl, h3, h4, h5, h6, h7⟩, hB⟩ hK
    gi_wp2
    refine ⟨by simp, .inl ⟨_, _, rfl, run_takeDeferred hK, ?_⟩⟩
    have hc5 := cell_kept h5 (grownBy_putObj' _ D (.deferred none)) (fun r e => by cases e; exact ⟨_, hK, rfl⟩)
    have hc6 := cell_kept h6 (grownBy_putObj' _ D (.deferred none)) (fun r e => by cases e; exact ⟨_, hK, rfl⟩)
    have hc7 := cell_kept h7 (grownBy_putObj' _ D (.deferred none)) (fun r e => by cases e; exact ⟨_, hK, rfl⟩)
    refine ⟨whatV bl (some x), ?_, by rw [find_at bl _ _ x hpre h3 h4], hB.trans (belowK_b (w := w) (Nat.le_refl _) W D _ _ (by have := Below.size HF.out.2.2.2.2.2.2.2.1; omega) hK rfl rfl)⟩
    simp [results, Try.f18, go_sem, hc5, hc6, hc7, whatV]
#print axioms what_may
end Go.Proofs.Ytgakdaohhbdjoaa
