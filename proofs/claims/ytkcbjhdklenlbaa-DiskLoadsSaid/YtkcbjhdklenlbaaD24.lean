/- Load; the law DiskTold: the walk. -/
import Derived.Test.YtkcbjhdklenlbaaD23
set_option linter.unusedVariables false
set_option linter.unusedSimpArgs false
namespace Go.Proofs.Ytkcbjhdklenlbaa
open Go.RowKit

def loadD (l : List Blk) : DS := { safe := l, last := l, ws := [], acts := 0, set := false, left := 0 }
/-- a disk of an image has come -/
def LoadPost (l : List Blk) (w : World) (e : Ending) (w' : World) : Prop := ∃ B S, e = .returned (.tuple #[.pointer (some ⟨B, 0, none⟩), .int .i64 0]) ∧ IsDisk w' B S (loadD l) ∧ Grow w w' ∧ ∀ k ∈ S, w.heap.size ≤ k
theorem load_disk {w w1 w2 : World} {l : List Blk} (h1 : 1 ≤ l.length) (h2 : l.length ≤ 2048) {gs cs gl cl : Nat} (hs : Row w1 32 256 (.slice (some ⟨gs, 0, none⟩) l.length cs) (l.map bc)) (hgs : w.heap.size ≤ gs) (hg1 : Grow w w1)
    (hl : Row w2 32 256 (.slice (some ⟨gl, 0, none⟩) l.length cl) (l.map bc)) (hgl : w1.heap.size ≤ gl) (hg2 : Grow w1 w2) :
    IsDisk (w2.alloc (.cells #[.slice (some ⟨gs, 0, none⟩) l.length cs, .slice (some ⟨gl, 0, none⟩) l.length cl, .slice none 0 0, .int .i64 0, .bool false, .int .i64 0] 68)) w2.heap.size [w2.heap.size, gs, gl] (loadD l) := by
  have hs1 : gs < w1.heap.size := hs.lt rfl
  have hl1 : gl < w2.heap.size := hl.lt rfl
  have hsz := hg2.size
  have ht : ∀ o : Obj, Touch [] w2 (w2.alloc o) := fun o => Touch.alloc _ _ _
  refine ⟨gs, cs, gl, cl, .slice none 0 0, ?_⟩
  constructor
  · exact heap_alloc_last _ _
  · exact (hs.kept (Touch.of_below (S := []) hg2) (by simp)).kept (ht _) (by simp)
  · exact hl.kept (ht _) (by simp)
  · exact ⟨fun c hc => (by cases hc), World.ownsRow_nil _ _ _ _⟩
  · rfl
  · exact h1
  · exact h2
  · simp
  · simp
  · simp
  · intro g hg; cases hg
  · omega
  · omega
  · omega
  · intro g hg; cases hg
  · intro k hk
    simp at hk
    simp
    omega
set_option maxHeartbeats 2000000 in
theorem load_ok {w : World} {v : Value} {l : List Blk} (h : Row w 32 256 v (l.map bc)) (h1 : 1 ≤ l.length) (h2 : l.length ≤ 2048) : Calls Try.prog 13 #[v] w (LoadPost l w) := by
  obtain ⟨g, cap, rfl, hg, _⟩ := h.open_ (by simp; omega)
  rw [List.length_map] at h ⊢
  have HR := Lib.hid h
  have H1 := Lib.hid h1
  have H2 := Lib.hid h2
  have hm := may_yes (l.length : Int) (by omega) (by omega)
  have HM := Lib.hid hm
  have HC := Lib.hid (fun (w' : World) (hg : Grow w w') => clone_ok (h.kept (Touch.of_below (S := []) hg) (by simp)) h1 (by omega))
  obtain ⟨n, hn⟩ : ∃ n, n = l.length := ⟨_, rfl⟩
  rw [← hn] at HC HM ⊢
  have hn1 : 1 ≤ n := by omega
  have hn2 : n ≤ 2048 := by omega
  have HN := Lib.hid hn
  clear h h1 h2 hm hn
  go_enter Try.func13, Try.ntmps13
  go_wp2_with fail
  refine (HM.out _).mono ?_
  rintro e w' ⟨rfl, rfl⟩
  go_wp2_with fail
  refine (HC.out _ (Grow.refl _)).mono ?_
  intro e w1 hpost
  obtain ⟨gs, cs, he, hr1, hgs, hg1⟩ := hpost
  subst he
  have HS1 := Lib.hid hr1
  have HS2 := Lib.hid hgs
  have HG1 := Lib.hid hg1
  clear hr1 hgs hg1
  rw [← HN.out]
  go_wp2_with fail
  refine (HC.out _ HG1.out).mono ?_
  intro e w2 hpost
  obtain ⟨gl, cl, he, hr1, hgs, hg1⟩ := hpost
  subst he
  have HL1 := Lib.hid hr1
  have HL2 := Lib.hid hgs
  have HG2 := Lib.hid hg1
  clear hr1 hgs hg1
  rw [← HN.out]
  go_wp2_with fail
  go_ret2
  have hd := load_disk H1.out H2.out HS1.out HS2.out HG1.out HL1.out HL2.out HG2.out
  rw [← HN.out] at hd
  refine ⟨_, _, rfl, hd, (HG1.out.trans HG2.out).trans (Grow.alloc _ _), ?_⟩
  intro k hk
  have s1 := HG1.out.size
  have s2 := HG2.out.size
  have s3 := HS2.out
  have s4 := HL2.out
  simp at hk
  omega
#print axioms load_ok
theorem Row.storeB {w : World} {g n cap : Nat} {l : List Blk} (h : Row w 32 256 (.slice (some ⟨g, 0, none⟩) n cap) (l.map bc)) {i : Nat} {x : Blk} (hx : x.length = 256) (hi : i < l.length) :
    Row (w.setCells g (i * 256) (bc x)) 32 256 (.slice (some ⟨g, 0, none⟩) n cap) ((l.set i x).map bc) := by
  rw [List.map_set]
  exact h.store (by rw [bc_length]; exact hx) (by rw [List.length_map]; exact hi)
set_option maxRecDepth 100000 in
set_option maxHeartbeats 4000000 in
theorem told_walk (n : Int) (hn : -9223372036854775808 ≤ n ∧ n ≤ 9223372036854775807) {w : World} {v : Value} {l : List (Int × Nat)} (hp : Puts w v l) (hl : l.length ≤ 9223372036854775807) :
    Calls Try.prog 3 #[.int .i64 n, v] w fun e w' => e = .returned (.bool true) ∧ Below w.heap.size w w' := by
  obtain ⟨a, cap, rfl⟩ := slot_many hp
  by_cases h3 : 300 < l.length
  · generalize l.length = L at *
    clear hp
    have d0 : decide ((300 : Int) < (L : Int)) = true := by simp; omega
    go_enter Try.func3, Try.ntmps3
    go_wp2_with fail
    go_ret
    exact ⟨rfl, Below.refl _ _⟩
  · obtain ⟨N, hN⟩ : ∃ N : Nat, (N : Int) = 1 + n % 64 := ⟨(1 + n % 64).toNat, by omega⟩
    have h1 : 1 ≤ N := by omega
    have h2 : N ≤ 64 := by omega
    have HW := Lib.hid (written_ok n hn N hN hp (by omega))
    obtain ⟨L, hL⟩ : ∃ L, L = l.length := ⟨_, rfl⟩
    rw [← hL] at h3 HW ⊢
    have d0 : decide ((300 : Int) < (L : Int)) = false := by simp; omega
    obtain ⟨M, hM, hmk⟩ := mk_run N (by omega)
    have HMM := Lib.hid hM
    have HMK := Lib.hid hmk
    have HPL := Lib.hid (putM_length N l)
    clear hn hN hp hL hM hmk hl
    go_enter Try.func3, Try.ntmps3
    go_wp2_with fail
    refine HW.out.mono ?_
    intro e w1 hpost
    obtain ⟨B, S, gm, cm, he, hd, hr, hgm, hS, hgm1, hgm2, hg⟩ := hpost
    subst he
    have HD := Lib.hid hd
    have HRM := Lib.hid hr
    have HG := Lib.hid hg
    have HSl := Lib.hid (show ∀ k ∈ S, k < w1.heap.size by obtain ⟨gs, cs, gl, cl, vw, h⟩ := hd; exact h.lt)
    have HGM := Lib.hid hgm2
    have HLOW := Lib.hid hg.size
    have HL1 := Lib.hid (show 1 ≤ (putM N l).length by rw [putM_length]; exact h1)
    have HL2 := Lib.hid (show (putM N l).length ≤ 4096 by rw [putM_length]; omega)
    have HL3 := Lib.hid (show (putM N l).length ≤ 2048 by rw [putM_length]; omega)
    have HK1 := Lib.hid (show 1 ≤ (noughts N).length by unfold noughts; rw [List.length_replicate]; exact h1)
    have HK2 := Lib.hid (show (noughts N).length ≤ 4096 by unfold noughts; rw [List.length_replicate]; omega)
    have HN2 := Lib.hid (show N ≤ 4096 by omega)
    clear hd hr hg hS hgm hgm1 hgm2 HW
    go_wp2_with fail
    refine (image_ok HD.out).mono ?_
    intro e w2 hpost
    obtain ⟨ga, ca, he, hr2, hga, hg2⟩ := hpost
    subst he
    rw [show (putD N l).last.length = N from HPL.out] at hr2 ⊢
    have HGA := Lib.hid hga
    have HGA2 := Lib.hid (show ga < w2.heap.size from hr2.lt rfl)
    have HRA2 := Lib.hid hr2
    have HD2 := Lib.hid (HD.out.kept (Touch.of_below (S := []) hg2) (by simp))
    have HRM2 := Lib.hid (HRM.out.kept (Touch.of_below (S := []) hg2) (by simp))
    have HG2 := Lib.hid (Grow.trans HG.out hg2)
    have HZ2 := Lib.hid hg2.size
    clear hr2 hga hg2 HRM HD HG
    go_wp2_with fail
    refine (safe_ok HD2.out).mono ?_
    intro e w3 hpost
    obtain ⟨gb, cb, he, hr3, hgb, hg3⟩ := hpost
    subst he
    rw [show (putD N l).safe.length = N from noughts_length N] at hr3 ⊢
    have HGB := Lib.hid hgb
    have HGB2 := Lib.hid (show gb < w3.heap.size from hr3.lt rfl)
    have HRB3 := Lib.hid hr3
    have HRA3 := Lib.hid (HRA2.out.kept (Touch.of_below (S := []) hg3) (by simp))
    have HD3 := Lib.hid (HD2.out.kept (Touch.of_below (S := []) hg3) (by simp))
    have HRM3 := Lib.hid (HRM2.out.kept (Touch.of_below (S := []) hg3) (by simp))
    have HG3 := Lib.hid (Grow.trans HG2.out hg3)
    have HZ3 := Lib.hid hg3.size
    clear hr3 hgb hg3 HRM2 HD2 HG2 HRA2
    go_wp2_with fail
    refine (load_ok HRA3.out HL1.out HL3.out).mono ?_
    intro e w4 hpost
    obtain ⟨C, T, he, hc, hg4, hT⟩ := hpost
    subst he
    have HC4 := Lib.hid hc
    have HT := Lib.hid hT
    have HRB4 := Lib.hid (HRB3.out.kept (Touch.of_below (S := []) hg4) (by simp))
    have HRA4 := Lib.hid (HRA3.out.kept (Touch.of_below (S := []) hg4) (by simp))
    have HD4 := Lib.hid (HD3.out.kept (Touch.of_below (S := []) hg4) (by simp))
    have HRM4 := Lib.hid (HRM3.out.kept (Touch.of_below (S := []) hg4) (by simp))
    have HG4 := Lib.hid (Grow.trans HG3.out hg4)
    clear hc hT hg4 HRM3 HD3 HG3 HRA3 HRB3
    have HNA := Lib.hid (show ∀ k, k ∈ S → k ∉ [ga, gb] by
      intro k hk hm
      have a1 := HSl.out k hk
      have a2 := HGA.out
      have a3 := HGB.out
      have a4 := HZ2.out
      rcases List.mem_cons.1 hm with h | h
      · omega
      · have := List.mem_singleton.1 h; omega)
    have HNC := Lib.hid (show ∀ k, k ∈ T → k ∉ [ga, gb] by
      intro k hk hm
      have a1 := HT.out k hk
      have a2 := HGA2.out
      have a3 := HGB2.out
      have a4 := HZ3.out
      rcases List.mem_cons.1 hm with h | h
      · omega
      · have := List.mem_singleton.1 h; omega)
    have HNM := Lib.hid (show gm ∉ [ga, gb] by
      intro hm
      have a1 := HGM.out
      have a2 := HGA.out
      have a3 := HGB.out
      have a4 := HZ2.out
      rcases List.mem_cons.1 hm with h | h
      · omega
      · have := List.mem_singleton.1 h; omega)
    have HAB := Lib.hid (show ga ≠ gb by have a2 := HGA2.out; have a3 := HGB.out; omega)
    have HLO := Lib.hid (show ∀ k ∈ [ga, gb], w.heap.size ≤ k by
      intro k hm
      have a2 := HGA.out
      have a3 := HGB.out
      have a4 := HZ2.out
      have a5 := HLOW.out
      rcases List.mem_cons.1 hm with h | h
      · omega
      · have := List.mem_singleton.1 h; omega)
    go_wp2_with fail
    go_loopw [13] (fun t13 wr => ∃ i : Nat, i ≤ N ∧ t13 = .int .i64 (i : Int) ∧ Hid (Touch [ga, gb] w4 wr) ∧ ∃ la lb : List Blk, Hid (la.length = N) ∧ Hid (lb.length = N) ∧ Hid (Row wr 32 256 (.slice (some ⟨ga, 0, none⟩) N ca) (la.map bc)) ∧ Hid (Row wr 32 256 (.slice (some ⟨gb, 0, none⟩) N cb) (lb.map bc))) (fun t13 _ => N - (intOf t13).toNat)
    case atStart => exact ⟨0, by omega, rfl, Lib.hid (Touch.refl _ _), _, _, HPL, Lib.hid (noughts_length N), HRA4, HRB4⟩
    case round =>
      obtain ⟨i, hi, rfl, HTT, la, lb, HLA, HLB, HRA, HRB⟩ := hrel
      by_cases hlt : i < N
      · have HF1 := Lib.hid (fun w => fill_any 12345 (by omega) w)
        have HF2 := Lib.hid (fun w => fill_any 54321 (by omega) w)
        have HX1 := Lib.hid (fillB_length 12345)
        have HX2 := Lib.hid (fillB_length 54321)
        generalize fillB 12345 = x1 at *
        generalize fillB 54321 = x2 at *
        have HS1 := Lib.hid (show (Try.prog.info? 32).map (·.size) = some (bc x1).toArray.size by rw [List.size_toArray, bc_length, HX1.out]; exact size32)
        have HS2 := Lib.hid (show (Try.prog.info? 32).map (·.size) = some (bc x2).toArray.size by rw [List.size_toArray, bc_length, HX2.out]; exact size32)
        have b0 : (0 : Int) ≤ (i : Int) := by omega
        have b1 : (i : Int) < (N : Int) := by omega
        go_wp2_with fail
        refine (HF1.out _).mono ?_
        intro e w5 hpost
        obtain ⟨he, hg5⟩ := hpost
        subst he
        have ht5 : Touch [ga, gb] wr w5 := Touch.of_below hg5
        have hra5 := HRA.out.kept (Touch.of_below (S := []) hg5) (by simp)
        have hrb5 := HRB.out.kept (Touch.of_below (S := []) hg5) (by simp)
        have hia : i < la.length := by rw [HLA.out]; exact hlt
        have hib : i < lb.length := by rw [HLB.out]; exact hlt
        have hs6 := hra5.storeB HX1.out hia
        have ht6 : Touch [ga, gb] w5 (w5.setCells ga (i * 256) (bc x1)) := touch_setCells (by simp) _ _ _
        have htb : Touch [ga] w5 (w5.setCells ga (i * 256) (bc x1)) := touch_setCells (by simp) _ _ _
        have HT6 := Lib.hid ((HTT.out.trans ht5 (fun i hi => .inl hi)).trans ht6 (fun i hi => .inl hi))
        have HTH := Lib.hid (show w5.there ga (i * 256) (bc x1).toArray.size by rw [List.size_toArray, bc_length, HX1.out]; exact hra5.there (by rw [List.length_map]; exact hia))
        have HRA6 := Lib.hid hs6
        have HRB6 := Lib.hid (hrb5.kept htb (fun g e => by cases e; simpa using fun h => HAB.out h.symm))
        have HIA := Lib.hid hia
        have HIB := Lib.hid hib
        clear hg5 ht5 hra5 hrb5 hia hib hs6 ht6 htb
        go_wp2_with (refine wpList_store_mid rfl 32 _ _ rfl ga (i * 256) (bc x1).toArray rfl rfl HTH.out HS1.out (all_oneCell_toArray (bc_one _)) ?_)
        generalize w5.setCells ga (i * 256) (bc x1) = w6 at *
        refine (HF2.out _).mono ?_
        intro e w7 hpost
        obtain ⟨he, hg7⟩ := hpost
        subst he
        have ht7 : Touch [ga, gb] w6 w7 := Touch.of_below hg7
        have hra7 := HRA6.out.kept (Touch.of_below (S := []) hg7) (by simp)
        have hrb7 := HRB6.out.kept (Touch.of_below (S := []) hg7) (by simp)
        have hs8 := hrb7.storeB HX2.out HIB.out
        have ht8 : Touch [ga, gb] w7 (w7.setCells gb (i * 256) (bc x2)) := touch_setCells (by simp) _ _ _
        have htb : Touch [gb] w7 (w7.setCells gb (i * 256) (bc x2)) := touch_setCells (by simp) _ _ _
        have HT8 := Lib.hid ((HT6.out.trans ht7 (fun i hi => .inl hi)).trans ht8 (fun i hi => .inl hi))
        have HTH2 := Lib.hid (show w7.there gb (i * 256) (bc x2).toArray.size by rw [List.size_toArray, bc_length, HX2.out]; exact hrb7.there (by rw [List.length_map]; exact HIB.out))
        have HRB8 := Lib.hid hs8
        have HRA8 := Lib.hid (hra7.kept htb (fun g e => by cases e; simpa using HAB.out))
        clear hg7 ht7 hra7 hrb7 hs8 ht8 htb
        go_wp2_with (refine wpList_store_mid rfl 32 _ _ rfl gb (i * 256) (bc x2).toArray rfl rfl HTH2.out HS2.out (all_oneCell_toArray (bc_one _)) ?_)
        generalize w7.setCells gb (i * 256) (bc x2) = w8 at *
        go_roundw
        case rel => exact ⟨i + 1, by omega, by go_num, HT8, _, _, Lib.hid (by rw [List.length_set]; exact HLA.out), Lib.hid (by rw [List.length_set]; exact HLB.out), HRA8, HRB8⟩
        case measure => simp [intOf]; omega
      · have HD6 := Lib.hid (HD4.out.kept HTT.out HNA.out)
        have HC6 := Lib.hid (HC4.out.kept HTT.out HNC.out)
        have HRM6 := Lib.hid (HRM4.out.kept HTT.out (fun g e => by cases e; exact HNM.out))
        have HG6 := Lib.hid (Below.trans HG4.out (HTT.out.below HG4.out.size HLO.out))
        clear HTT HRA HRB HLA HLB
        go_upto_region 15 with (fail)
        refine wp_region_facts (by kernel_rfl) [[], [(0, some 66)], [], [(1, some 67), (2, some 68)], [(3, some 69)], [(4, some 70)], [(4, some 70), (5, some 71)], [(4, some 70)], [(4, some 70), (6, some 72), (7, some 73)], [(4, some 70), (8, some 74)], [(8, some 74), (9, some 75)], [(10, some 76)], [(10, some 76), (11, some 77)], [(10, some 76)], [(10, some 76), (13, some 79)], [(10, some 76), (14, some 80)], [(10, some 76), (12, some 78), (15, some 81)], [(10, some 76), (16, some 82)], [(0, some 66), (1, some 67), (2, some 68), (3, some 69), (4, some 70), (5, some 71), (6, some 72), (7, some 73), (8, some 74), (9, some 75), (10, some 76), (11, some 77), (12, some 78), (13, some 79), (14, some 80), (15, some 81), (16, some 82), (17, some 83)]] [(0, some 66), (1, some 67), (2, some 68), (3, some 69), (4, some 70), (5, some 71), (6, some 72), (7, some 73), (8, some 74), (9, some 75), (10, some 76), (11, some 77), (12, some 78), (13, some 79), (14, some 80), (15, some 81), (16, some 82), (17, some 83), (18, some 4)] (by kernel_rfl) (by kernel_rfl) (by kernel_rfl) (Touch []) (Touch.refl []) (fun _ _ _ h h' => h.trans h' (fun i hi => .inl hi)) [Is (Value.pointer (some ⟨B, 0, none⟩)), (fun v wx => Row wx 32 256 v ((putM N l).map bc)), Is (Value.slice (some ⟨gm, 0, none⟩) N cm), Is (Value.bool true), Is (Value.bool true), Is (Value.pointer (some ⟨C, 0, none⟩)), (fun v wx => Row wx 32 256 v ((putM N l).map bc)), Is (Value.slice (some ⟨gm, 0, none⟩) N cm), Is (Value.bool true), Is (Value.bool true), Is (Value.bool true), Is (Value.pointer (some ⟨B, 0, none⟩)), (fun v wx => Row wx 32 256 v ((noughts N).map bc)), Is (Value.slice (some ⟨gm, 0, none⟩) N cm), Is (Value.int .i64 (N : Int)), (fun v wx => Row wx 32 256 v ((noughts N).map bc)), Is (Value.bool true), Is (Value.bool true), Is (Value.bool true)] rfl ⟨is_stab _ _, (fun v w w' ht h => Row.kept h ht (by simp)), is_stab _ _, is_stab _ _, is_stab _ _, is_stab _ _, (fun v w w' ht h => Row.kept h ht (by simp)), is_stab _ _, is_stab _ _, is_stab _ _, is_stab _ _, is_stab _ _, (fun v w w' ht h => Row.kept h ht (by simp)), is_stab _ _, is_stab _ _, (fun v w w' ht h => Row.kept h ht (by simp)), is_stab _ _, is_stab _ _, is_stab _ _, trivial⟩ ⟨?o0, ?o1, ?o2, ?o3, ?o4, ?o5, ?o6, ?o7, ?o8, ?o9, ?o10, ?o11, ?o12, ?o13, ?o14, ?o15, ?o16, ?o17, ?o18, trivial⟩ ?_
        case o0 =>
          intro vals wq hRq hpq
          simp only [List.getD_cons_zero, List.getD_cons_succ, canonP]
          simp only [Oper.gives]
          go_simp
          exact ⟨is_mk _ _, (Touch.refl []) _⟩
        case o1 =>
          intro vals wq hRq hpq
          simp only [factsP, List.getD_cons_zero, List.getD_cons_succ] at hpq
          have f0 := hpq.1
          replace hpq := hpq.2
          clear hpq
          replace f0 : vals 0 = _ := f0
          simp only [List.getD_cons_zero, List.getD_cons_succ, canonP, f0]
          clear f0
          simp only [Oper.gives]
          go_simp
          exact (image_ok (HD6.out.kept ((Touch.drew [] _).trans hRq (by simp)) (by simp))).mono fun e w' ⟨g, cap, he, hr, _, hg⟩ => ⟨_, he, hr, Touch.of_below hg⟩
        case o2 =>
          intro vals wq hRq hpq
          simp only [List.getD_cons_zero, List.getD_cons_succ, canonP]
          simp only [Oper.gives]
          go_simp
          exact ⟨is_mk _ _, (Touch.refl []) _⟩
        case o3 =>
          intro vals wq hRq hpq
          simp only [factsP, List.getD_cons_zero, List.getD_cons_succ] at hpq
          have f1 := hpq.1
          replace hpq := hpq.2
          have f2 := hpq.1
          replace hpq := hpq.2
          clear hpq
          replace f2 : vals 2 = _ := f2
          simp only [List.getD_cons_zero, List.getD_cons_succ, canonP, f2]
          clear f2
          simp only [Oper.gives]
          go_simp
          exact (same_yes f1 (HRM6.out.kept ((Touch.drew [] _).trans hRq (by simp)) (by simp)) HL1.out HL2.out).mono fun e w' ⟨he, hg⟩ => ⟨_, he, is_mk _ _, Touch.of_below hg⟩
        case o4 =>
          intro vals wq hRq hpq
          simp only [factsP, List.getD_cons_zero, List.getD_cons_succ] at hpq
          have f3 := hpq.1
          replace hpq := hpq.2
          clear hpq
          replace f3 : vals 3 = _ := f3
          simp only [List.getD_cons_zero, List.getD_cons_succ, canonP, f3]
          clear f3
          simp only [Oper.gives]
          go_simp
          exact ⟨is_mk _ _, (Touch.refl []) _⟩
        case o5 =>
          intro vals wq hRq hpq
          simp only [factsP, List.getD_cons_zero, List.getD_cons_succ] at hpq
          have f4 := hpq.1
          replace hpq := hpq.2
          clear hpq
          replace f4 : vals 4 = _ := f4
          simp only [List.getD_cons_zero, List.getD_cons_succ, canonP, f4]
          clear f4
          simp only [Oper.gives]
          go_simp
          exact ⟨is_mk _ _, (Touch.refl []) _⟩
        case o6 =>
          intro vals wq hRq hpq
          simp only [factsP, List.getD_cons_zero, List.getD_cons_succ] at hpq
          have f4 := hpq.1
          replace hpq := hpq.2
          have f5 := hpq.1
          replace hpq := hpq.2
          clear hpq
          replace f4 : vals 4 = _ := f4
          replace f5 : vals 5 = _ := f5
          simp only [List.getD_cons_zero, List.getD_cons_succ, canonP, f4, f5]
          clear f4 f5
          simp only [Oper.gives]
          go_simp
          exact (image_ok (HC6.out.kept ((Touch.drew [] _).trans hRq (by simp)) (by simp))).mono fun e w' ⟨g, cap, he, hr, _, hg⟩ => ⟨_, he, hr, Touch.of_below hg⟩
        case o7 =>
          intro vals wq hRq hpq
          simp only [factsP, List.getD_cons_zero, List.getD_cons_succ] at hpq
          have f4 := hpq.1
          replace hpq := hpq.2
          clear hpq
          replace f4 : vals 4 = _ := f4
          simp only [List.getD_cons_zero, List.getD_cons_succ, canonP, f4]
          clear f4
          simp only [Oper.gives]
          go_simp
          exact ⟨is_mk _ _, (Touch.refl []) _⟩
        case o8 =>
          intro vals wq hRq hpq
          simp only [factsP, List.getD_cons_zero, List.getD_cons_succ] at hpq
          have f4 := hpq.1
          replace hpq := hpq.2
          have f6 := hpq.1
          replace hpq := hpq.2
          have f7 := hpq.1
          replace hpq := hpq.2
          clear hpq
          replace f4 : vals 4 = _ := f4
          replace f7 : vals 7 = _ := f7
          simp only [List.getD_cons_zero, List.getD_cons_succ, canonP, f4, f7]
          clear f4 f7
          simp only [Oper.gives]
          go_simp
          exact (same_yes f6 (HRM6.out.kept ((Touch.drew [] _).trans hRq (by simp)) (by simp)) HL1.out HL2.out).mono fun e w' ⟨he, hg⟩ => ⟨_, he, is_mk _ _, Touch.of_below hg⟩
        case o9 =>
          intro vals wq hRq hpq
          simp only [factsP, List.getD_cons_zero, List.getD_cons_succ] at hpq
          have f4 := hpq.1
          replace hpq := hpq.2
          have f8 := hpq.1
          replace hpq := hpq.2
          clear hpq
          replace f4 : vals 4 = _ := f4
          replace f8 : vals 8 = _ := f8
          simp only [List.getD_cons_zero, List.getD_cons_succ, canonP, f4, f8]
          clear f4 f8
          simp only [Oper.gives]
          go_simp
          exact ⟨is_mk _ _, (Touch.refl []) _⟩
        case o10 =>
          intro vals wq hRq hpq
          simp only [factsP, List.getD_cons_zero, List.getD_cons_succ] at hpq
          have f8 := hpq.1
          replace hpq := hpq.2
          have f9 := hpq.1
          replace hpq := hpq.2
          clear hpq
          replace f8 : vals 8 = _ := f8
          replace f9 : vals 9 = _ := f9
          simp only [List.getD_cons_zero, List.getD_cons_succ, canonP, f8, f9]
          clear f8 f9
          simp only [Oper.gives]
          go_simp
          exact ⟨is_mk _ _, (Touch.refl []) _⟩
        case o11 =>
          intro vals wq hRq hpq
          simp only [factsP, List.getD_cons_zero, List.getD_cons_succ] at hpq
          have f10 := hpq.1
          replace hpq := hpq.2
          clear hpq
          replace f10 : vals 10 = _ := f10
          simp only [List.getD_cons_zero, List.getD_cons_succ, canonP, f10]
          clear f10
          simp only [Oper.gives]
          go_simp
          exact ⟨is_mk _ _, (Touch.refl []) _⟩
        case o12 =>
          intro vals wq hRq hpq
          simp only [factsP, List.getD_cons_zero, List.getD_cons_succ] at hpq
          have f10 := hpq.1
          replace hpq := hpq.2
          have f11 := hpq.1
          replace hpq := hpq.2
          clear hpq
          replace f10 : vals 10 = _ := f10
          replace f11 : vals 11 = _ := f11
          simp only [List.getD_cons_zero, List.getD_cons_succ, canonP, f10, f11]
          clear f10 f11
          simp only [Oper.gives]
          go_simp
          exact (safe_ok (HD6.out.kept ((Touch.drew [] _).trans hRq (by simp)) (by simp))).mono fun e w' ⟨g, cap, he, hr, _, hg⟩ => ⟨_, he, hr, Touch.of_below hg⟩
        case o13 =>
          intro vals wq hRq hpq
          simp only [factsP, List.getD_cons_zero, List.getD_cons_succ] at hpq
          have f10 := hpq.1
          replace hpq := hpq.2
          clear hpq
          replace f10 : vals 10 = _ := f10
          simp only [List.getD_cons_zero, List.getD_cons_succ, canonP, f10]
          clear f10
          simp only [Oper.gives]
          go_simp
          exact ⟨is_mk _ _, (Touch.refl []) _⟩
        case o14 =>
          intro vals wq hRq hpq
          simp only [factsP, List.getD_cons_zero, List.getD_cons_succ] at hpq
          have f10 := hpq.1
          replace hpq := hpq.2
          have f13 := hpq.1
          replace hpq := hpq.2
          clear hpq
          replace f10 : vals 10 = _ := f10
          replace f13 : vals 13 = _ := f13
          simp only [List.getD_cons_zero, List.getD_cons_succ, canonP, f10, f13]
          clear f10 f13
          simp only [Oper.gives]
          go_simp
          exact ⟨is_mk _ _, (Touch.refl []) _⟩
        case o15 =>
          intro vals wq hRq hpq
          simp only [factsP, List.getD_cons_zero, List.getD_cons_succ] at hpq
          have f10 := hpq.1
          replace hpq := hpq.2
          have f14 := hpq.1
          replace hpq := hpq.2
          clear hpq
          replace f10 : vals 10 = _ := f10
          replace f14 : vals 14 = _ := f14
          simp only [List.getD_cons_zero, List.getD_cons_succ, canonP, f10, f14]
          clear f10 f14
          have hm := HMK.out
          simp only [Oper.gives]
          go_simp
          exact ⟨row_new HN2.out HMM.out (heap_alloc_last _ _), Touch.alloc _ _ _⟩
        case o16 =>
          intro vals wq hRq hpq
          simp only [factsP, List.getD_cons_zero, List.getD_cons_succ] at hpq
          have f10 := hpq.1
          replace hpq := hpq.2
          have f12 := hpq.1
          replace hpq := hpq.2
          have f15 := hpq.1
          replace hpq := hpq.2
          clear hpq
          replace f10 : vals 10 = _ := f10
          simp only [List.getD_cons_zero, List.getD_cons_succ, canonP, f10]
          clear f10
          simp only [Oper.gives]
          go_simp
          exact (same_yes f12 f15 HK1.out HK2.out).mono fun e w' ⟨he, hg⟩ => ⟨_, he, is_mk _ _, Touch.of_below hg⟩
        case o17 =>
          intro vals wq hRq hpq
          simp only [factsP, List.getD_cons_zero, List.getD_cons_succ] at hpq
          have f10 := hpq.1
          replace hpq := hpq.2
          have f16 := hpq.1
          replace hpq := hpq.2
          clear hpq
          replace f10 : vals 10 = _ := f10
          replace f16 : vals 16 = _ := f16
          simp only [List.getD_cons_zero, List.getD_cons_succ, canonP, f10, f16]
          clear f10 f16
          simp only [Oper.gives]
          go_simp
          exact ⟨is_mk _ _, (Touch.refl []) _⟩
        case o18 =>
          intro vals wq hRq hpq
          simp only [factsP, List.getD_cons_zero, List.getD_cons_succ] at hpq
          have f0 := hpq.1
          replace hpq := hpq.2
          have f1 := hpq.1
          replace hpq := hpq.2
          have f2 := hpq.1
          replace hpq := hpq.2
          have f3 := hpq.1
          replace hpq := hpq.2
          have f4 := hpq.1
          replace hpq := hpq.2
          have f5 := hpq.1
          replace hpq := hpq.2
          have f6 := hpq.1
          replace hpq := hpq.2
          have f7 := hpq.1
          replace hpq := hpq.2
          have f8 := hpq.1
          replace hpq := hpq.2
          have f9 := hpq.1
          replace hpq := hpq.2
          have f10 := hpq.1
          replace hpq := hpq.2
          have f11 := hpq.1
          replace hpq := hpq.2
          have f12 := hpq.1
          replace hpq := hpq.2
          have f13 := hpq.1
          replace hpq := hpq.2
          have f14 := hpq.1
          replace hpq := hpq.2
          have f15 := hpq.1
          replace hpq := hpq.2
          have f16 := hpq.1
          replace hpq := hpq.2
          have f17 := hpq.1
          replace hpq := hpq.2
          clear hpq
          replace f0 : vals 0 = _ := f0
          replace f2 : vals 2 = _ := f2
          replace f3 : vals 3 = _ := f3
          replace f4 : vals 4 = _ := f4
          replace f5 : vals 5 = _ := f5
          replace f7 : vals 7 = _ := f7
          replace f8 : vals 8 = _ := f8
          replace f9 : vals 9 = _ := f9
          replace f10 : vals 10 = _ := f10
          replace f11 : vals 11 = _ := f11
          replace f13 : vals 13 = _ := f13
          replace f14 : vals 14 = _ := f14
          replace f16 : vals 16 = _ := f16
          replace f17 : vals 17 = _ := f17
          simp only [List.getD_cons_zero, List.getD_cons_succ, canonP, f0, f2, f3, f4, f5, f7, f8, f9, f10, f11, f13, f14, f16, f17]
          clear f0 f2 f3 f4 f5 f7 f8 f9 f10 f11 f13 f14 f16 f17
          simp only [Oper.gives]
          go_simp
          exact ⟨is_mk _ _, (Touch.refl []) _⟩
        intro vals wz hRwz hfwz
        simp only [AllFacts] at hfwz
        have g0 := hfwz.1
        replace hfwz := hfwz.2
        have g1 := hfwz.1
        replace hfwz := hfwz.2
        have g2 := hfwz.1
        replace hfwz := hfwz.2
        have g3 := hfwz.1
        replace hfwz := hfwz.2
        have g4 := hfwz.1
        replace hfwz := hfwz.2
        have g5 := hfwz.1
        replace hfwz := hfwz.2
        have g6 := hfwz.1
        replace hfwz := hfwz.2
        have g7 := hfwz.1
        replace hfwz := hfwz.2
        have g8 := hfwz.1
        replace hfwz := hfwz.2
        have g9 := hfwz.1
        replace hfwz := hfwz.2
        have g10 := hfwz.1
        replace hfwz := hfwz.2
        have g11 := hfwz.1
        replace hfwz := hfwz.2
        have g12 := hfwz.1
        replace hfwz := hfwz.2
        have g13 := hfwz.1
        replace hfwz := hfwz.2
        have g14 := hfwz.1
        replace hfwz := hfwz.2
        have g15 := hfwz.1
        replace hfwz := hfwz.2
        have g16 := hfwz.1
        replace hfwz := hfwz.2
        have g17 := hfwz.1
        replace hfwz := hfwz.2
        have g18 := hfwz.1
        replace hfwz := hfwz.2
        clear hfwz
        replace g0 : vals 0 = _ := g0
        replace g2 : vals 2 = _ := g2
        replace g3 : vals 3 = _ := g3
        replace g4 : vals 4 = _ := g4
        replace g5 : vals 5 = _ := g5
        replace g7 : vals 7 = _ := g7
        replace g8 : vals 8 = _ := g8
        replace g9 : vals 9 = _ := g9
        replace g10 : vals 10 = _ := g10
        replace g11 : vals 11 = _ := g11
        replace g13 : vals 13 = _ := g13
        replace g14 : vals 14 = _ := g14
        replace g16 : vals 16 = _ := g16
        replace g17 : vals 17 = _ := g17
        replace g18 : vals 18 = _ := g18
        simp only [canonP, Act.put, List.setIfInBounds_toArray, List.set_cons_succ, List.set_cons_zero, g0, g2, g3, g4, g5, g7, g8, g9, g10, g11, g13, g14, g16, g17, g18]
        clear g0 g1 g2 g3 g4 g5 g6 g7 g8 g9 g10 g11 g12 g13 g14 g15 g16 g17 g18
        have HG7 := Lib.hid (Below.trans HG6.out (((Touch.drew [] _).trans hRwz (by simp)).below HG6.out.size (by simp)))
        clear hRwz
        go_wp2_with fail
        go_ret
        exact ⟨rfl, HG7.out⟩
#print axioms told_walk
end Go.Proofs.Ytkcbjhdklenlbaa
