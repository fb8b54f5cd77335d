/- The document's cache: Back. -/
import Derived.Test.YtieknecbheeekaaK5
set_option linter.unusedVariables false
set_option linter.unusedSimpArgs false
namespace Go.Proofs.Ytieknecbheeekaa
open Go.RowKit Go.Maps

theorem rback_no {w : World} {Q R : Nat} {V : List Nat} {d : DS} {L : List HE} (h : IsRC w Q R V d L) (b : Int) (hb : ¬ (0 ≤ b ∧ b < d.safe.length)) :
    Calls Try.prog 32 #[.pointer (some ⟨Q, 0, none⟩), .int .i64 b] w fun en w' => en = .returned (.int .i64 2) ∧ w = w' := by
  have HI := Lib.hid (ris_any h b)
  rw [decide_eq_false hb] at HI
  clear h hb
  go_enter Try.func32, Try.ntmps32
  go_wp2_with fail
  refine HI.out.mono ?_
  rintro en w' ⟨rfl, rfl⟩
  go_wp2_with fail
  go_ret
  exact ⟨rfl, rfl⟩
theorem rback_none {w : World} {Q R : Nat} {V : List Nat} {d : DS} {L : List HE} (h : IsRC w Q R V d L) (hL : L.length ≤ 100000) (b : Int) (hb : 0 ≤ b ∧ b < d.safe.length) (hn : ∀ x ∈ L, x.b ≠ b) :
    Calls Try.prog 32 #[.pointer (some ⟨Q, 0, none⟩), .int .i64 b] w fun en w' => en = .returned (.int .i64 0) ∧ w = w' := by
  have HI := Lib.hid (ris_any h b)
  rw [decide_eq_true hb] at HI
  have HF := Lib.hid ((rfind_any h (by omega) b).mono (R' := fun e w' => e = .returned (.int .i64 (-1)) ∧ w = w') (by
    rintro e w' ⟨h1, h2⟩
    refine ⟨?_, h2⟩
    rcases h1 with ⟨i, x, hi, hx, _⟩ | ⟨_, he⟩
    · exact absurd hx (hn x (List.mem_of_getElem? hi))
    · exact he))
  clear h hb hn
  go_enter Try.func32, Try.ntmps32
  go_wp2_with fail
  refine HI.out.mono ?_
  rintro en w' ⟨rfl, rfl⟩
  go_wp2_with fail
  refine HF.out.mono ?_
  rintro en w' ⟨rfl, rfl⟩
  go_wp2_with fail
  go_ret
  exact ⟨rfl, rfl⟩
/-- an element that stands there -/
structure HEAt (w : World) (g i : Nat) (x : HE) : Prop where
  flag : w.cell? ⟨g, i * 258 + 257, none⟩ = some (.bool x.h.2)
  data : w.rangeAt g (i * 258 + 1) (bc x.h.1)
  len : x.h.1.length = 256
theorem HEAt.of {w : World} {g i : Nat} {x : HE} (hr : w.rangeAt g (i * 258) (ec x)) (hl : (ec x).length = 258) : HEAt w g i x := by
  have hx := ec_len_inv hl
  have hb : (bc x.h.1).length = 256 := by rw [bc_length]; exact hx
  refine ⟨?_, ?_, hx⟩
  · exact hr 257 _ (by unfold ec hcells; rw [List.getElem?_cons_succ, List.getElem?_append_right (by omega), hb]; rfl)
  · intro j v hv
    have hj : j < 256 := by rw [← hb]; exact (List.getElem?_eq_some_iff.1 hv).1
    have := hr (j + 1) v (by unfold ec hcells; rw [List.getElem?_cons_succ, List.getElem?_append_left (by omega)]; exact hv)
    rw [show i * 258 + (j + 1) = i * 258 + 1 + j by omega] at this
    exact this
/-- where a block's element stands -/
theorem IsRC.found {w : World} {Q R : Nat} {V : List Nat} {d : DS} {L : List HE} (h : IsRC w Q R V d L) (hL : L.length ≤ 1000000) {f : Int → Option Hd} (hr : RcIs L f) {i : Nat} {x : HE} (hi : L[i]? = some x) :
    Calls Try.prog 37 #[.pointer (some ⟨Q, 0, none⟩), .int .i64 x.b] w fun e w' => e = .returned (.int .i64 (i : Int)) ∧ w = w' := by
  refine (rfind_any h hL x.b).mono ?_
  rintro e w' ⟨h1, h2⟩
  refine ⟨?_, h2⟩
  rcases h1 with ⟨j, y, hj, hy, he⟩ | ⟨hn, _⟩
  · have hjl := (List.getElem?_eq_some_iff.1 hj).1
    have : j = i := (List.getElem?_inj (i := j) (j := i) (by rw [List.length_map]; exact hjl) hr.nd).1 (by rw [List.getElem?_map, List.getElem?_map, hj, hi]; simp [hy])
    rw [he, this]
  · exact absurd rfl (hn x (List.mem_of_getElem? hi))
set_option maxHeartbeats 2000000 in
theorem rback_clean {w : World} {Q R : Nat} {V : List Nat} {d : DS} {L : List HE} (h : IsRC w Q R V d L) (hL : L.length ≤ 100000) {f : Int → Option Hd} (hr : RcIs L f) (b : Int) (hb : 0 ≤ b ∧ b < d.safe.length) (i : Nat) (x : HE) (hi : L[i]? = some x) (hx : x.b = b) (ht : x.h.2 = false) :
    Calls Try.prog 32 #[.pointer (some ⟨Q, 0, none⟩), .int .i64 b] w fun en w' => en = .returned (.int .i64 0) ∧ w = w' := by
  have HI := Lib.hid (ris_any h b)
  rw [decide_eq_true hb] at HI
  have HF := Lib.hid (h.found (by omega) hr hi)
  rw [hx] at HF
  obtain ⟨T, vl, hV, hp⟩ := h
  obtain ⟨a, cap, rfl⟩ := hp.len
  obtain ⟨g, rfl, _, hgl, hrg⟩ := hp.at_ hi
  have hE := HEAt.of hrg (hp.row.1 _ (List.mem_of_getElem? (show (L.map ec)[i]? = some (ec x) by rw [List.getElem?_map, hi]; rfl)))
  have c1 := cell_at hp.obj 1
  have hil := (List.getElem?_eq_some_iff.1 hi).1
  have x0 := hE.flag
  rw [ht] at x0
  obtain ⟨n, hn⟩ : ∃ n, n = L.length := ⟨_, rfl⟩
  simp only [List.getElem?_toArray, List.getElem?_cons_zero, List.getElem?_cons_succ] at c1
  rw [← hn] at c1 hil hL
  have b0 : (0 : Int) ≤ (i : Int) := by omega
  have b1 : (i : Int) < (n : Int) := by omega
  clear hb hp hrg hE hV hi hx ht hn hr
  go_enter Try.func32, Try.ntmps32
  go_wp2_with fail
  refine HI.out.mono ?_
  rintro en w' ⟨rfl, rfl⟩
  go_wp2_with fail
  refine HF.out.mono ?_
  rintro en w' ⟨rfl, rfl⟩
  have n0 : ¬ ((i : Int) < 0) := by omega
  have n1 : decide ((i : Int) < 0) = false := by simp
  go_wp2_with fail
  go_ret
  exact ⟨rfl, rfl⟩
#print axioms rback_clean
theorem RCP.setE {w : World} {Q R : Nat} {T : List Nat} {d : DS} {L : List HE} {g n cap : Nat} (h : RCP w Q R T d L (.slice (some ⟨g, 0, none⟩) n cap)) {i : Nat} {b : Int} {x : Blk} {t t' : Bool} (hi : L[i]? = some ⟨b, (x, t)⟩) (hx : x.length = 256) : RCP (w.setCell ⟨g, i * 258 + 257, none⟩ (.bool t')) Q R T d (L.set i ⟨b, (x, t')⟩) (.slice (some ⟨g, 0, none⟩) n cap) := by
  have ht : Touch [g] w (w.setCell ⟨g, i * 258 + 257, none⟩ (.bool t')) := Touch.setCell w (by simp) _
  have hg := h.bw g rfl
  have hl : (bc x).length = 256 := by rw [bc_length]; exact hx
  exact {
    obj := (ht.block Q (h.lt Q (by simp)) (by simpa using fun e => hg.1 e.symm)).trans h.obj
    row := by
      have := Row.put1 h.row (i := i) (j := 257) (c := ec ⟨b, (x, t)⟩) (by rw [List.getElem?_map, hi]; rfl) (by omega) (.bool t')
      rw [List.map_set]
      have he : (ec ⟨b, (x, t)⟩).set 257 (.bool t') = ec ⟨b, (x, t')⟩ := by
        unfold ec hcells
        rw [List.set_cons_succ, List.set_append_right _ _ (by rw [hl]; exact Nat.le_refl _), hl]
        rfl
      rw [he] at this
      exact this
    ref := h.ref.kept ht (fun k hk hm => hg.2 (List.mem_singleton.1 hm ▸ hk))
    qT := h.qT
    bw := h.bw }
set_option maxRecDepth 100000 in
set_option maxHeartbeats 4000000 in
theorem rback_dirty {w : World} {Q R : Nat} {V : List Nat} {d : DS} {L : List HE} (h : IsRC w Q R V d L) (hL : L.length ≤ 100000) {f : Int → Option Hd} (hr : RcIs L f) (b : Int) (hb : 0 ≤ b ∧ b < d.safe.length) (i : Nat) (x : Blk) (hi : L[i]? = some ⟨b, (x, true)⟩) (hw : d.ws.length ≤ 100000) (ha : 0 ≤ d.acts ∧ d.acts ≤ 1000000) (hl : 0 ≤ d.left ∧ d.left ≤ 9223372036854775807) :
    Calls Try.prog 32 #[.pointer (some ⟨Q, 0, none⟩), .int .i64 b] w fun en w' => en = .returned (.int .i64 (d.why b)) ∧ ∃ V', IsRC w' Q R V' (d.tried b x) (if d.why b = 0 then L.set i ⟨b, (x, false)⟩ else L) ∧ Touch V w w' ∧ ∀ k ∈ V', k ∈ V ∨ w.heap.size ≤ k := by
  have HI := Lib.hid (ris_any h b)
  rw [decide_eq_true hb] at HI
  have HF := Lib.hid (h.found (by omega) hr hi)
  obtain ⟨T, vl, hV, hp⟩ := h
  obtain ⟨a, cap, rfl⟩ := hp.len
  obtain ⟨g, rfl, _, hgl, hrg⟩ := hp.at_ hi
  have hE := HEAt.of hrg (hp.row.1 _ (List.mem_of_getElem? (show (L.map ec)[i]? = some (ec ⟨b, (x, true)⟩) by rw [List.getElem?_map, hi]; rfl)))
  have c1 := cell_at hp.obj 1
  have c0 := cell_at hp.obj 0
  have hil := (List.getElem?_eq_some_iff.1 hi).1
  have x0 := hE.flag
  dsimp only at x0
  have HP := Lib.hid hp
  have HVV := Lib.hid hV
  have HIX := Lib.hid hi
  have HXL := Lib.hid (show x.length = 256 from hE.len)
  have HWR := Lib.hid (fun wq (hq : IsRef wq R T d) => rtried_ok hq b x hE.len hw ha hl)
  obtain ⟨n, hn⟩ : ∃ n, n = L.length := ⟨_, rfl⟩
  have HN := Lib.hid hn
  simp only [List.getElem?_toArray, List.getElem?_cons_zero, List.getElem?_cons_succ] at c1 c0
  rw [← hn] at c1 hil hL
  have HC0 := Lib.hid (show Q < w.heap.size ∧ w.cell? ⟨Q, 0, none⟩ = some (.pointer (some ⟨R, 0, none⟩)) from ⟨hp.lt Q (by simp), c0⟩)
  have HC1 := Lib.hid (show Q < w.heap.size ∧ w.cell? ⟨Q, 1, none⟩ = some (.slice (some ⟨g, 0, none⟩) n cap) from ⟨hp.lt Q (by simp), c1⟩)
  have HRX := Lib.hid (show w.rangeAt g (i * 258 + 1) (bc x) from hE.data)
  have HGL := Lib.hid hgl
  have HSz := Lib.hid (show (Try.prog.info? 44).map (·.size) = some (bc x).length by rw [bc_length, HXL.out]; exact size32)
  have b0 : (0 : Int) ≤ (i : Int) := by omega
  have b1 : (i : Int) < (n : Int) := by omega
  have HB0 := Lib.hid b0
  have HB1 := Lib.hid b1
  clear hb hp hrg hE hV hi hn hr hw ha hl hgl c0
  go_enter Try.func32, Try.ntmps32
  go_wp2_with fail
  refine HI.out.mono ?_
  rintro en w' ⟨rfl, rfl⟩
  go_wp2_with fail
  refine HF.out.mono ?_
  rintro en w' ⟨rfl, rfl⟩
  have n0 : ¬ ((i : Int) < 0) := by omega
  have n1 : decide ((i : Int) < 0) = false := by simp
  go_upto_region 6 with (fail)
  clear x0 c1
  refine wp_region_facts_tail 13 (by kernel_rfl) (by kernel_rfl) [[], [(0, some 27)], [(1, some 28)], [(2, some 29)], [], [], [(5, some 32)], [(6, some 33)], [(7, some 34)], [], [(8, some 35), (9, some 36)], [(10, some 37)], [(11, some 38)]] [(0, some 27), (1, some 28), (2, some 29), (3, some 30), (4, some 31), (5, some 32), (6, some 33), (7, some 34), (8, some 35), (9, some 36), (10, some 37), (11, some 38), (12, some 39)] (by kernel_rfl) (by kernel_rfl) (by kernel_rfl) (Touch []) (Touch.refl []) (fun _ _ _ h h' => h.trans h' (fun i hi => .inl hi)) [Is (Value.pointer (some ⟨Q, 0, none⟩)), Is (Value.pointer (some ⟨Q, 0, none⟩)), Is (Value.pointer (some ⟨Q, 0, none⟩)), Is (Value.pointer (some ⟨R, 0, none⟩)), Is (Value.int .i64 b), Is (Value.pointer (some ⟨Q, 0, none⟩)), Is (Value.pointer (some ⟨Q, 0, none⟩)), Is (Value.pointer (some ⟨Q, 1, none⟩)), Is (Value.slice (some ⟨g, 0, none⟩) n cap), Is (Value.int .i64 (i : Int)), Is (Value.pointer (some ⟨g, i * 258, none⟩)), Is (Value.pointer (some ⟨g, i * 258 + 1, none⟩)), Is (Value.agg (bc x).toArray)] rfl ⟨is_stab _ _, is_stab _ _, is_stab _ _, is_stab _ _, is_stab _ _, is_stab _ _, is_stab _ _, is_stab _ _, is_stab _ _, is_stab _ _, is_stab _ _, is_stab _ _, is_stab _ _, trivial⟩ ⟨?o0, ?o1, ?o2, ?o3, ?o4, ?o5, ?o6, ?o7, ?o8, ?o9, ?o10, ?o11, ?o12, trivial⟩ ?_
  case o0 =>
    intro vals wq hRq hpq
    simp only [List.getD_cons_zero, List.getD_cons_succ, canonP]
    simp only [Oper.gives]
    go_simp
    exact ⟨is_mk _ _, (Touch.refl []) _⟩
  case o1 =>
    intro vals wq hRq hpq
    simp only [factsP, List.getD_cons_zero, List.getD_cons_succ] at hpq
    have f0 := hpq.1
    replace hpq := hpq.2
    clear hpq
    replace f0 : vals 0 = _ := f0
    simp only [List.getD_cons_zero, List.getD_cons_succ, canonP, f0]
    clear f0
    simp only [Oper.gives]
    go_simp
    exact ⟨is_mk _ _, Touch.refl _ _⟩
  case o2 =>
    intro vals wq hRq hpq
    simp only [factsP, List.getD_cons_zero, List.getD_cons_succ] at hpq
    have f1 := hpq.1
    replace hpq := hpq.2
    clear hpq
    replace f1 : vals 1 = _ := f1
    simp only [List.getD_cons_zero, List.getD_cons_succ, canonP, f1]
    clear f1
    simp only [Oper.gives]
    go_simp
    exact ⟨is_mk _ _, (Touch.refl []) _⟩
  case o3 =>
    intro vals wq hRq hpq
    simp only [factsP, List.getD_cons_zero, List.getD_cons_succ] at hpq
    have f2 := hpq.1
    replace hpq := hpq.2
    clear hpq
    replace f2 : vals 2 = _ := f2
    simp only [List.getD_cons_zero, List.getD_cons_succ, canonP, f2]
    clear f2
    have hcc : wq.cell? ⟨Q, 0, none⟩ = some (.pointer (some ⟨R, 0, none⟩)) := (Touch.cell ((Touch.drew [] _).trans hRq (by simp)) (a := ⟨Q, 0, none⟩) HC0.out.1 (by simp)).trans HC0.out.2
    simp only [Oper.gives]
    go_simp
    exact ⟨is_mk _ _, Touch.refl _ _⟩
  case o4 =>
    intro vals wq hRq hpq
    simp only [List.getD_cons_zero, List.getD_cons_succ, canonP]
    simp only [Oper.gives]
    go_simp
    exact ⟨is_mk _ _, (Touch.refl []) _⟩
  case o5 =>
    intro vals wq hRq hpq
    simp only [List.getD_cons_zero, List.getD_cons_succ, canonP]
    simp only [Oper.gives]
    go_simp
    exact ⟨is_mk _ _, (Touch.refl []) _⟩
  case o6 =>
    intro vals wq hRq hpq
    simp only [factsP, List.getD_cons_zero, List.getD_cons_succ] at hpq
    have f5 := hpq.1
    replace hpq := hpq.2
    clear hpq
    replace f5 : vals 5 = _ := f5
    simp only [List.getD_cons_zero, List.getD_cons_succ, canonP, f5]
    clear f5
    simp only [Oper.gives]
    go_simp
    exact ⟨is_mk _ _, Touch.refl _ _⟩
  case o7 =>
    intro vals wq hRq hpq
    simp only [factsP, List.getD_cons_zero, List.getD_cons_succ] at hpq
    have f6 := hpq.1
    replace hpq := hpq.2
    clear hpq
    replace f6 : vals 6 = _ := f6
    simp only [List.getD_cons_zero, List.getD_cons_succ, canonP, f6]
    clear f6
    simp only [Oper.gives]
    go_simp
    exact ⟨is_mk _ _, (Touch.refl []) _⟩
  case o8 =>
    intro vals wq hRq hpq
    simp only [factsP, List.getD_cons_zero, List.getD_cons_succ] at hpq
    have f7 := hpq.1
    replace hpq := hpq.2
    clear hpq
    replace f7 : vals 7 = _ := f7
    simp only [List.getD_cons_zero, List.getD_cons_succ, canonP, f7]
    clear f7
    have hcc : wq.cell? ⟨Q, 1, none⟩ = some (.slice (some ⟨g, 0, none⟩) n cap) := (Touch.cell ((Touch.drew [] _).trans hRq (by simp)) (a := ⟨Q, 1, none⟩) HC1.out.1 (by simp)).trans HC1.out.2
    simp only [Oper.gives]
    go_simp
    exact ⟨is_mk _ _, Touch.refl _ _⟩
  case o9 =>
    intro vals wq hRq hpq
    simp only [List.getD_cons_zero, List.getD_cons_succ, canonP]
    simp only [Oper.gives]
    go_simp
    exact ⟨is_mk _ _, (Touch.refl []) _⟩
  case o10 =>
    intro vals wq hRq hpq
    simp only [factsP, List.getD_cons_zero, List.getD_cons_succ] at hpq
    have f8 := hpq.1
    replace hpq := hpq.2
    have f9 := hpq.1
    replace hpq := hpq.2
    clear hpq
    replace f8 : vals 8 = _ := f8
    replace f9 : vals 9 = _ := f9
    simp only [List.getD_cons_zero, List.getD_cons_succ, canonP, f8, f9]
    clear f8 f9
    have b0 := HB0.out
    have b1 := HB1.out
    simp only [Oper.gives]
    go_simp
    exact ⟨is_mk _ _, Touch.refl _ _⟩
  case o11 =>
    intro vals wq hRq hpq
    simp only [factsP, List.getD_cons_zero, List.getD_cons_succ] at hpq
    have f10 := hpq.1
    replace hpq := hpq.2
    clear hpq
    replace f10 : vals 10 = _ := f10
    simp only [List.getD_cons_zero, List.getD_cons_succ, canonP, f10]
    clear f10
    simp only [Oper.gives]
    go_simp
    exact ⟨is_mk _ _, (Touch.refl []) _⟩
  case o12 =>
    intro vals wq hRq hpq
    simp only [factsP, List.getD_cons_zero, List.getD_cons_succ] at hpq
    have f11 := hpq.1
    replace hpq := hpq.2
    clear hpq
    replace f11 : vals 11 = _ := f11
    simp only [List.getD_cons_zero, List.getD_cons_succ, canonP, f11]
    clear f11
    have hrg : wq.rangeAt g (i * 258 + 1) (bc x) := range_touch HRX.out ((Touch.drew [] _).trans hRq (by simp)) HGL.out (by simp)
    exact gives_load_mid 44 _ rfl g (i * 258 + 1) rfl (bc x) _ hrg Try.underlying44 rfl HSz.out ⟨is_mk _ _, Touch.refl _ _⟩
  intro vals wz hRwz hfwz
  simp only [AllFacts] at hfwz
  have g0 := hfwz.1
  replace hfwz := hfwz.2
  have g1 := hfwz.1
  replace hfwz := hfwz.2
  have g2 := hfwz.1
  replace hfwz := hfwz.2
  have g3 := hfwz.1
  replace hfwz := hfwz.2
  have g4 := hfwz.1
  replace hfwz := hfwz.2
  have g5 := hfwz.1
  replace hfwz := hfwz.2
  have g6 := hfwz.1
  replace hfwz := hfwz.2
  have g7 := hfwz.1
  replace hfwz := hfwz.2
  have g8 := hfwz.1
  replace hfwz := hfwz.2
  have g9 := hfwz.1
  replace hfwz := hfwz.2
  have g10 := hfwz.1
  replace hfwz := hfwz.2
  have g11 := hfwz.1
  replace hfwz := hfwz.2
  have g12 := hfwz.1
  replace hfwz := hfwz.2
  clear hfwz
  replace g0 : vals 0 = _ := g0
  replace g1 : vals 1 = _ := g1
  replace g2 : vals 2 = _ := g2
  replace g3 : vals 3 = _ := g3
  replace g4 : vals 4 = _ := g4
  replace g5 : vals 5 = _ := g5
  replace g6 : vals 6 = _ := g6
  replace g7 : vals 7 = _ := g7
  replace g8 : vals 8 = _ := g8
  replace g9 : vals 9 = _ := g9
  replace g10 : vals 10 = _ := g10
  replace g11 : vals 11 = _ := g11
  replace g12 : vals 12 = _ := g12
  simp only [List.drop_succ_cons, List.drop_zero]
  simp only [canonP, Act.put, List.setIfInBounds_toArray, List.set_cons_succ, List.set_cons_zero, g0, g1, g2, g3, g4, g5, g6, g7, g8, g9, g10, g11, g12]
  clear g0 g1 g2 g3 g4 g5 g6 g7 g8 g9 g10 g11 g12
  have HTW := Lib.hid ((Touch.drew [] w).trans hRwz (by simp))
  clear hRwz
  go_wp2_with fail
  refine (HWR.out _ (HP.out.ref.kept HTW.out (by simp))).mono ?_
  intro e W3 hpost
  obtain ⟨he, T', hr3, ht3, hs3⟩ := hpost
  subst he
  have hp2 := HP.out.kept HTW.out (by simp)
  have hlt2 := hp2.lt
  have hT' : ∀ k ∈ T', k ∈ T ∨ wz.heap.size ≤ k := hs3
  have hqT' : Q ∉ T' := fun hm => by
    rcases hT' Q hm with h | h
    · exact hp2.qT h
    · have := hlt2 Q (by simp); omega
  have hgT' : g ∉ T' := fun hm => by
    rcases hT' g hm with h | h
    · exact (hp2.bw g rfl).2 h
    · have := hlt2 g (by simp [Value.ownBlock]); omega
  have hp3 : RCP W3 Q R T' (d.tried b x) L (.slice (some ⟨g, 0, none⟩) L.length cap) := {
    obj := (ht3.block Q (hlt2 Q (by simp)) hp2.qT).trans hp2.obj
    row := hp2.row.kept ht3 (fun k e => by cases e; exact (hp2.bw g rfl).2)
    ref := hr3
    qT := hqT'
    bw := fun k e => by cases e; exact ⟨(hp2.bw g rfl).1, hgT'⟩ }
  have HP3 := Lib.hid hp3
  have HT3 := Lib.hid (show Touch V w W3 from (HTW.out.mono (S' := V) (by simp)).trans ht3 (fun k hk => .inl (by rw [HVV.out]; simp [hk])))
  have HS3 := Lib.hid (show ∀ k ∈ Q :: ((Value.slice (some ⟨g, 0, none⟩) L.length cap).ownBlock.toList ++ T'), k ∈ V ∨ w.heap.size ≤ k from fun k hk => by
    rw [HVV.out]
    simp only [List.mem_cons, List.mem_append] at hk ⊢
    rcases hk with rfl | hk | hk
    · exact .inl (.inl rfl)
    · exact .inl (.inr (.inl hk))
    · rcases hT' k hk with h | h
      · exact .inl (.inr (.inr h))
      · exact .inr (Nat.le_trans HTW.out.size h))
  have HGV := Lib.hid (show g ∈ V by rw [HVV.out]; simp [Value.ownBlock])
  clear hr3 ht3 hs3 hp2 hlt2 hT' hqT' hgT' hp3
  by_cases hy : d.why b = 0
  · rw [hy]
    have HY := Lib.hid hy
    have c1 := cell_at HP3.out.obj 1
    simp only [List.getElem?_toArray, List.getElem?_cons_zero, List.getElem?_cons_succ] at c1
    rw [← HN.out] at c1
    obtain ⟨g3, hg3, _, _, hrg3⟩ := HP3.out.at_ HIX.out
    have x0 := (HEAt.of (g := g3) hrg3 (HP3.out.row.1 _ (List.mem_of_getElem? (show (L.map ec)[i]? = some (ec ⟨b, (x, true)⟩) by rw [List.getElem?_map, HIX.out]; rfl)))).flag
    obtain rfl : g = g3 := by cases hg3; rfl
    dsimp only at x0
    have f0 := HP3.out.row.2
    rw [List.length_map] at f0
    replace f0 := f0.frozenAt (i * 258 + 257)
    have HP4 := Lib.hid (HP3.out.setE (t' := false) HIX.out HXL.out)
    have HT4 := Lib.hid (HT3.out.trans (Touch.setCell (S := [g]) (a := ⟨g, i * 258 + 257, none⟩) W3 (by simp) (.bool false)) (fun k hk => .inl (by rw [List.mem_singleton.1 hk]; exact HGV.out)))
    clear hy hrg3 hg3
    go_wp2_with fail
    go_ret
    refine ⟨rfl, _, ⟨T', _, rfl, ?_⟩, HT4.out, HS3.out⟩
    first | exact HP4.out | (rw [if_pos HY.out]; exact HP4.out)
  · have HY := Lib.hid hy
    have e1 : (d.why b == 0) = false := by simpa using hy
    clear hy
    go_wp2_with fail
    go_ret
    refine ⟨rfl, _, ⟨T', _, rfl, ?_⟩, HT3.out, HS3.out⟩
    first | exact HP3.out | (rw [if_neg HY.out]; exact HP3.out)
#print axioms rback_dirty
/-- Back of the document's cache -/
theorem rback_full {w : World} {Q R : Nat} {V : List Nat} {s : CS} {L : List HE} (h : IsRC w Q R V s.d L) (hr : RcIs L s.f) (hL : L.length ≤ 100000) (b : Int) (hw : s.d.ws.length ≤ 100000) (ha : 0 ≤ s.d.acts ∧ s.d.acts ≤ 1000000) (hl : 0 ≤ s.d.left ∧ s.d.left ≤ 9223372036854775807) :
    Calls Try.prog 32 #[.pointer (some ⟨Q, 0, none⟩), .int .i64 b] w fun en w' => en = .returned (.int .i64 (s.bk b)) ∧ RcPost Q R V L.length (s.bkS b).d (s.bkS b).f w w' := by
  have hsame : ∀ {w' : World}, w = w' → s.bkS b = s → RcPost Q R V L.length (s.bkS b).d (s.bkS b).f w w' := by
    rintro w' rfl h1
    rw [h1]
    exact ⟨V, L, h, hr, Nat.le_refl _, Touch.refl _ _, fun k hk => .inl hk⟩
  by_cases hk : 0 ≤ b ∧ b < s.d.safe.length
  · have h0 : s.askI b = 0 := if_pos hk
    by_cases c : ∃ x ∈ L, x.b = b
    · obtain ⟨⟨b', x, t⟩, hx, hb⟩ := c
      obtain rfl : b' = b := hb
      obtain ⟨i, hi⟩ := List.mem_iff_getElem?.1 hx
      have hf := hr.at_ hi
      dsimp only at hf
      cases t with
      | false =>
        refine (rback_clean h hL hr b' hk i _ hi rfl rfl).mono ?_
        rintro e w' ⟨he, h1⟩
        exact ⟨by rw [he]; unfold CS.bk; rw [if_pos h0, hf], hsame h1 (by unfold CS.bkS; rw [if_pos h0, hf])⟩
      | true =>
        refine (rback_dirty h hL hr b' hk i x hi hw ha hl).mono ?_
        rintro e w' ⟨he, V', h1, h2, h3⟩
        refine ⟨by rw [he]; unfold CS.bk; rw [if_pos h0, hf], V', (if s.d.why b' = 0 then L.set i ⟨b', (x, false)⟩ else L), ?_, ?_, ?_, h2, h3⟩
        · have : (s.bkS b').d = s.d.tried b' x := by
            unfold CS.bkS DS.tried DS.why
            rw [if_pos h0, hf]
            dsimp only
            cases hd : s.d.dead <;> simp [hk]
          rw [this]; exact h1
        · unfold CS.bkS DS.why
          rw [if_pos h0, hf]
          dsimp only
          cases hd : s.d.dead with
          | true => simpa using hr
          | false => simpa [hk] using hr.set hi ⟨b', (x, false)⟩ rfl
        · split
          · rw [List.length_set]; exact Nat.le_refl _
          · exact Nat.le_refl _
    · have hn : ∀ x ∈ L, x.b ≠ b := fun x hx hb => c ⟨x, hx, hb⟩
      have hf := hr.no_ hn
      refine (rback_none h hL b hk hn).mono ?_
      rintro e w' ⟨he, h1⟩
      exact ⟨by rw [he]; unfold CS.bk; rw [if_pos h0, hf], hsame h1 (by unfold CS.bkS; rw [if_pos h0, hf])⟩
  · have h0 : s.askI b = 2 := if_neg hk
    refine (rback_no h b hk).mono ?_
    rintro e w' ⟨he, h1⟩
    exact ⟨by rw [he]; unfold CS.bk; rw [h0]; rfl, hsame h1 (by unfold CS.bkS; rw [h0]; rfl)⟩
#print axioms rback_full
end Go.Proofs.Ytieknecbheeekaa
