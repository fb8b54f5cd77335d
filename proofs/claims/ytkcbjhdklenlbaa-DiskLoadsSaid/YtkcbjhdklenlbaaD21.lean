/- The law's written: the walk. -/
import Derived.Test.YtkcbjhdklenlbaaD20
set_option linter.unusedVariables false
set_option linter.unusedSimpArgs false
namespace Go.Proofs.Ytkcbjhdklenlbaa
open Go.RowKit

theorem results_tmp4 {fn : Func} {t u v x : Tmp} (h : fn.results = #[.tmp t, .tmp u, .tmp v, .tmp x]) (tmps : Array Value) (P : Program) (w : World) :
    (results fn tmps).run P w = .ok (.tuple #[tmps.getD t undef, tmps.getD u undef, tmps.getD v undef, tmps.getD x undef]) w := by
  simp [results, h]
/-- some blocks were written to a new disk -/
def WrittenPost (N : Nat) (l : List (Int × Nat)) (w : World) (e : Ending) (w' : World) : Prop :=
  ∃ B S gm cm, e = .returned (.tuple #[.pointer (some ⟨B, 0, none⟩), .slice (some ⟨gm, 0, none⟩) N cm, .int .i64 ((ins N l).length : Int), .bool true]) ∧ IsDisk w' B S (putD N l) ∧ Row w' 32 256 (.slice (some ⟨gm, 0, none⟩) N cm) ((putM N l).map bc) ∧ gm ∉ S ∧ (∀ k ∈ S, w.heap.size ≤ k) ∧ w.heap.size ≤ gm ∧ gm < w'.heap.size ∧ Grow w w'
/-- what stands ahead of each round -/
structure WInv (N : Nat) (l : List (Int × Nat)) (w w1 : World) (B k m : Nat) (S' : List Nat) (wr : World) : Prop where
  disk : IsDisk wr B S' (putD N (l.take k))
  row : Row wr 32 256 (.slice (some ⟨w1.heap.size, 0, none⟩) N N) ((putM N (l.take k)).map bc)
  cnt : m = (ins N (l.take k)).length
  out : w1.heap.size ∉ S'
  lo : ∀ j ∈ S', w.heap.size ≤ j
  low : w.heap.size ≤ w1.heap.size
  hi : w1.heap.size < wr.heap.size
  grow : Grow w wr
theorem written_cv (n : Int) (N : Nat) (hN : (N : Int) = 1 + n % 64) : wrap64 (1 + wrap64 ((IntKind.u64.wrap n).tmod 64)) = (N : Int) := by
  rw [IntKind.wrap_u64, Int.tmod_eq_emod_of_nonneg (by omega)]
  rw [show wrap64 (n % 18446744073709551616 % 64) = n % 64 by unfold wrap64; omega, hN]
  unfold wrap64; omega
theorem written_start {N : Nat} (h1 : 1 ≤ N) (h2 : N ≤ 64) {w w1 : World} {B : Nat} {S : List Nat} {l : List (Int × Nat)} {M : Array Value} (hd : IsDisk w1 B S (newD N)) (hg : Grow w w1) (hS : ∀ k ∈ S, w.heap.size ≤ k) (hM : M.toList = (List.replicate N (bc zeroB)).flatten) :
    WInv N l w w1 B 0 0 S (w1.alloc (.cells M 32)) := by
  have ht : Touch [] w1 (w1.alloc (.cells M 32)) := Touch.alloc _ _ _
  have hlt : ∀ k ∈ S, k < w1.heap.size := by obtain ⟨gs, cs, gl, cl, vw, h⟩ := hd; exact h.lt
  exact
  { disk := hd.kept ht (by simp)
    row := row_new (by omega) hM (heap_alloc_last _ _)
    cnt := rfl
    out := fun hm => Nat.lt_irrefl _ (hlt _ hm)
    lo := hS
    low := hg.size
    hi := by simp
    grow := hg.trans (Grow.alloc _ _) }
/-- the disk is one write further, what is noted not yet -/
structure WMid (N : Nat) (l : List (Int × Nat)) (w w1 : World) (B k m : Nat) (S' : List Nat) (wr : World) : Prop where
  disk : IsDisk wr B S' (putD N (l.take (k + 1)))
  row : Row wr 32 256 (.slice (some ⟨w1.heap.size, 0, none⟩) N N) ((putM N (l.take k)).map bc)
  cnt : m = (ins N (l.take k)).length
  out : w1.heap.size ∉ S'
  lo : ∀ j ∈ S', w.heap.size ≤ j
  low : w.heap.size ≤ w1.heap.size
  hi : w1.heap.size < wr.heap.size
  grow : Grow w wr
theorem WInv.wrote {N : Nat} {l : List (Int × Nat)} {w w1 : World} {B k m : Nat} {S' S2 : List Nat} {wr wz : World} (h : WInv N l w w1 B k m S' wr) (ht : Touch S' wr wz) (hd : IsDisk wz B S2 (putD N (l.take (k + 1)))) (hS : ∀ j ∈ S2, j ∈ S' ∨ wr.heap.size ≤ j) : WMid N l w w1 B k m S2 wz :=
  { disk := hd
    row := h.row.kept ht (fun g e => by cases e; exact h.out)
    cnt := h.cnt
    out := fun hm => by rcases hS _ hm with h1 | h1; exact h.out h1; have := h.hi; omega
    lo := fun j hj => by rcases hS _ hj with h1 | h1; exact h.lo j h1; have := h.hi; have := h.low; omega
    low := h.low
    hi := Nat.lt_of_lt_of_le h.hi ht.size
    grow := Below.trans h.grow (ht.below h.grow.size h.lo) }
theorem WMid.noted {N : Nat} {l : List (Int × Nat)} {w w1 : World} {B k m f c : Nat} {S2 : List Nat} {wz wq : World} (h : WMid N l w w1 B k m S2 wz) (hp : l[k]? = some ((c : Int), f)) (hin : 0 ≤ (c : Int) ∧ (c : Int) < (N : Int)) (ht : Touch [w1.heap.size] wz wq)
    (hr : Row wq 32 256 (.slice (some ⟨w1.heap.size, 0, none⟩) N N) (((putM N (l.take k)).set c (fillB f)).map bc)) : WInv N l w w1 B (k + 1) (m + 1) S2 wq :=
  { disk := h.disk.kept ht (fun j hj hm => by rw [List.mem_singleton.1 hm] at hj; exact h.out hj)
    row := by rw [putM_snoc N l k _ hp, if_pos hin]; exact hr
    cnt := by rw [ins_snoc N l k _ hp, if_pos hin, List.length_append, ← h.cnt]; rfl
    out := h.out
    lo := h.lo
    low := h.low
    hi := Nat.lt_of_lt_of_le h.hi ht.size
    grow := Below.trans h.grow (ht.below h.grow.size (fun j hj => by rw [List.mem_singleton.1 hj]; exact h.low)) }
theorem WMid.skipped {N : Nat} {l : List (Int × Nat)} {w w1 : World} {B k m f : Nat} {b : Int} {S2 : List Nat} {wz : World} (h : WMid N l w w1 B k m S2 wz) (hp : l[k]? = some (b, f)) (hin : ¬ (0 ≤ b ∧ b < (N : Int))) : WInv N l w w1 B (k + 1) m S2 wz :=
  { disk := h.disk
    row := by rw [putM_snoc N l k _ hp, if_neg hin]; exact h.row
    cnt := by rw [ins_snoc N l k _ hp, if_neg hin, List.append_nil]; exact h.cnt
    out := h.out
    lo := h.lo
    low := h.low
    hi := h.hi
    grow := h.grow }
set_option maxRecDepth 100000 in
set_option maxHeartbeats 2000000 in
theorem written_ok (n : Int) (hn : -9223372036854775808 ≤ n ∧ n ≤ 9223372036854775807) (N : Nat) (hN : (N : Int) = 1 + n % 64) {w : World} {v : Value} {l : List (Int × Nat)} (hp : Puts w v l) (hl : l.length ≤ 300) :
    Calls Try.prog 10 #[.int .i64 n, v] w (WrittenPost N l w) := by
  have h1 : 1 ≤ N := by omega
  have h2 : N ≤ 64 := by omega
  have h3 : N ≤ 2048 := by omega
  obtain ⟨a, cap, rfl, hc⟩ := hp
  have HP := Lib.hid hc
  obtain ⟨L, hL⟩ : ∃ L, L = l.length := ⟨_, rfl⟩
  rw [← hL] at hl ⊢
  have HL := Lib.hid hL
  obtain ⟨M, hM, hmk⟩ := mk_run N (by omega)
  have HM := Lib.hid hM
  have hcv := written_cv n N hN
  clear hc hL hM hn hN
  go_enter Try.func10, Try.ntmps10
  go_wp2_with fail
  rw [hcv]
  refine (new_ok N h1 h3 _).mono ?_
  intro e w1 hpost
  obtain ⟨B, S, he, hd, hg, hS⟩ := hpost
  subst he
  have HD := Lib.hid hd
  have HG := Lib.hid hg
  have HS := Lib.hid hS
  clear hd hg hS
  go_wp2_with fail
  go_loopw [11, 12] (fun t11 t12 wr => ∃ k m S', k ≤ L ∧ t11 = .int .i64 ((m : Nat) : Int) ∧ t12 = .int .i64 ((k : Nat) : Int) ∧ m ≤ k ∧ WInv N l w w1 B k m S' wr) (fun t11 t12 _ => L - (intOf t12).toNat)
  case atStart => exact ⟨0, 0, S, by omega, rfl, rfl, by omega, written_start h1 h2 HD.out HG.out HS.out HM.out⟩
  case round =>
    obtain ⟨k, m, S', hk, rfl, rfl, hmk, HI⟩ := hrel
    by_cases hlt : k < L
    · have hkl : k < l.length := by rw [← HL.out]; exact hlt
      obtain ⟨p, hpk⟩ : ∃ p, l[k]? = some p := ⟨l[k], by simp [hkl]⟩
      obtain ⟨b, f⟩ := p
      obtain ⟨y, rfl, hyb, hc0, hc1, hf, hb0, hb1⟩ := HP.out k (b, f) hpk
      have hyS : y.block ∉ S' := fun hm => by have := HI.lo _ hm; omega
      have hyM : y.block ∉ [w1.heap.size] := fun hm => by have h4 := HI.low; rw [List.mem_singleton.1 hm] at hyb; omega
      have hyl : y.block < wr.heap.size := Nat.lt_of_lt_of_le hyb HI.grow.size
      have HC0 := Lib.hid ((HI.grow.cell (p := y.add (k * 2)) (by rw [add_block]; exact hyb)).trans hc0)
      have HC1 := Lib.hid ((HI.grow.cell (p := (y.add (k * 2)).add 1) (by rw [add_block, add_block]; exact hyb)).trans hc1)
      have HYS := Lib.hid hyS
      have HYM := Lib.hid hyM
      have HYL := Lib.hid hyl
      have HF := Lib.hid hf
      have HII := Lib.hid HI
      have HPK := Lib.hid hpk
      have hws := ins_length N (l.take k)
      have HWS := Lib.hid (show (putD N (l.take k)).ws.length ≤ 100000 by show (ins N (l.take k)).length ≤ _; rw [← HI.cnt]; omega)
      have HA := Lib.hid (show 0 ≤ (putD N (l.take k)).acts ∧ (putD N (l.take k)).acts ≤ 1000000 by show (0 : Int) ≤ ((ins N (l.take k)).length : Int) ∧ ((ins N (l.take k)).length : Int) ≤ _; rw [← HI.cnt]; omega)
      have HLL := Lib.hid (show 0 ≤ (putD N (l.take k)).left ∧ (putD N (l.take k)).left ≤ 9223372036854775807 from ⟨Int.le_refl _, by show (0 : Int) ≤ _; omega⟩)
      have HDD := Lib.hid HI.disk
      clear hyS hyM hyl hf hws hpk hc0 hc1 HI hyb
      go_upto_region 10 with (fail)
      refine written_reg B S' (putD N (l.take k)) y L cap k f b wr HDD HC0 HC1 HYL HYS HF hlt HWS HA HLL _ _ _ _ _ _ _ _ _ _ _ _ _ _ _ _ _ _ _ _ _ _ _ _ _ _ _ _ _ _ _ _ _ _ _ _ _ _ _ _ _ _ _ _ _ _ _ _ _ _ _ _ _ _ _ _ _ _ _ _ _ _ _ _ _ _ _ _ _ _ _ _ _ _ _ _ _ _ _ _ _ _ _ _ _ _ _ _ _ _ _ _ (Lib.hid ?_)
      intro y35 y36 y37 y38 y39 y40 y41 y42 y43 y44 y45 y46 y47 wz ht hex
      obtain ⟨S2, hd2, hS2⟩ := hex
      rw [putD_snoc N l k (b, f) HPK.out] at hd2
      have e0 := (ht.cell (a := y.add (k * 2)) (by rw [add_block]; exact HYL.out) (by rw [add_block]; exact HYS.out)).trans HC0.out
      have HC02 := Lib.hid e0
      have HC12 := Lib.hid ((ht.cell (a := (y.add (k * 2)).add 1) (by rw [add_block, add_block]; exact HYL.out) (by rw [add_block, add_block]; exact HYS.out)).trans HC1.out)
      have HYL2 := Lib.hid (Nat.lt_of_lt_of_le HYL.out ht.size)
      have HI2 := Lib.hid (HII.out.wrote ht hd2 hS2)
      have hwy := putD_why N (l.take k) b
      clear ht hd2 hS2 HC0 HC1 HYL HYS HDD HWS HA HLL
      by_cases hin : 0 ≤ b ∧ b < (N : Int)
      · obtain ⟨c, rfl⟩ : ∃ c : Nat, b = (c : Int) := ⟨b.toNat, by omega⟩
        rw [if_pos hin] at hwy
        rw [hwy]
        have HN := Lib.hid (show (putM N (l.take k)).length = N from putM_length N _)
        have HCN := Lib.hid (show c < (putM N (l.take k)).length by rw [HN.out]; omega)
        have d0 : decide ((0 : Int) ≤ (c : Int)) = true := by simp
        have d1 : decide ((c : Int) < (N : Int)) = true := by simp; omega
        clear hwy
        go_upto_region 15 with (fail)
        refine noted_reg w1.heap.size N N (putM N (l.take k)) y L cap k f c wz (Lib.hid HI2.out.row) HC02 HC12 HYL2 HYM HF hlt HCN.out HN.out _ _ _ _ _ _ _ _ _ _ _ _ _ _ _ _ _ _ _ _ _ _ _ _ _ _ _ _ _ _ _ _ _ _ _ _ _ _ _ _ _ _ _ _ _ _ _ _ _ _ _ _ _ _ _ _ _ _ _ _ _ _ _ _ _ _ _ _ _ _ _ _ _ _ _ _ _ _ _ _ _ _ _ _ _ _ _ _ _ _ _ _ (Lib.hid ?_)
        intro z76 z77 z78 z79 z80 z81 z82 z83 z84 z85 z86 z87 z88 wq htq hrq
        have HI3 := Lib.hid (HI2.out.noted HPK.out hin htq hrq)
        clear htq hrq e0
        go_wp2_with fail
        go_roundw
        case rel => exact ⟨k + 1, m + 1, S2, by omega, by go_num, by go_num, by omega, HI3.out⟩
        case measure => simp [intOf]; omega
      · rw [if_neg hin] at hwy
        rw [hwy]
        clear hwy
        have HI3 := Lib.hid (HI2.out.skipped HPK.out hin)
        by_cases hb : b < 0
        · have d0 : decide ((0 : Int) ≤ b) = false := by simp; omega
          go_wp2_with fail
          go_roundw
          case rel => exact ⟨k + 1, m, S2, by omega, rfl, by go_num, by omega, HI3.out⟩
          case measure => simp [intOf]; omega
        · have d0 : decide ((0 : Int) ≤ b) = true := by simp; omega
          have d1 : decide (b < (N : Int)) = false := by simp; omega
          go_wp2_with fail
          go_roundw
          case rel => exact ⟨k + 1, m, S2, by omega, rfl, by go_num, by omega, HI3.out⟩
          case measure => simp [intOf]; omega
    · obtain rfl : L = k := by omega
      have HII := Lib.hid HI
      clear HI
      go_wp2_with fail
      (try simp only [Exit.inBlock, Exit.then])
      refine bodyPost_ret (results_tmp4 rfl _ _ _) rfl ?_
      have h := HII.out
      have htk : l.take L = l := List.take_of_length_le (by rw [HL.out]; exact Nat.le_refl _)
      have hc := h.cnt
      rw [htk] at hc
      refine ⟨B, S', w1.heap.size, N, by rw [← hc]; rfl, ?_, ?_, h.out, h.lo, h.low, h.hi, h.grow⟩
      · have := h.disk; rwa [htk] at this
      · have := h.row; rwa [htk] at this
#print axioms written_ok
end Go.Proofs.Ytkcbjhdklenlbaa
