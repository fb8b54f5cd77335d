/- A list of committed transactions: Next for all; Did. -/
import Derived.Test.YtokehhegomiciaaH5
set_option linter.unusedVariables false
set_option linter.unusedSimpArgs false
namespace Go.Proofs.Ytokehhegomiciaa
open Go.RowKit Go.Maps

theorem getC_mem : ∀ {l : List CT} {b : Int} {c : Cp}, getC l b = some c → ∃ t ∈ l, c ∈ t.left ∧ c.1 = b := by
  intro l
  induction l with
  | nil => intro b c h; cases h
  | cons t l ih =>
    intro b c h
    rw [getC] at h
    cases e : getC l b with
    | some d =>
      rw [e] at h
      cases h
      obtain ⟨u, hu, h1⟩ := ih e
      exact ⟨u, List.mem_cons_of_mem _ hu, h1⟩
    | none =>
      rw [e] at h
      obtain ⟨h1, h2⟩ := findC_mem (l := t.left) h
      exact ⟨t, List.mem_cons_self .., h1, h2⟩
theorem dataG_len {l : List CT} (h : ∀ t ∈ l, t.ok) (b : Int) : (dataC (getC l b)).length = 256 := by
  cases e : getC l b with
  | none => exact zeroB_ok
  | some c =>
    obtain ⟨t, ht, hc, _⟩ := getC_mem e
    exact ((h t ht).cs c ((h t ht).sub.subset hc)).1.2
theorem LSt.oks {w : World} {B : Nat} {g : G4} {s : CS} {T : List Nat} {va : Value} {xs : List CV} (h : LSt w B g s T va xs) : ∀ t ∈ s.all, t.ok := by
  intro t ht
  rw [← h.all] at ht
  obtain ⟨x, hx, rfl⟩ := List.mem_map.1 ht
  exact (h.li.is x hx).ok
theorem next_ok {w : World} {B : Nat} {g : G4} {s : CS} {T : List Nat} {va : Value} {xs : List CV} (h : LSt w B g s T va xs) (ps nx : Nat) (pst : Int) : Calls Try.prog 19 #[.pointer (some ⟨B, 0, none⟩), .agg #[.int .u32 (ps : Int), .int .i64 pst], .int .u32 (nx : Int)] w fun e w' => e = .returned (.agg (scell (nextC s ps pst nx)).toArray) ∧ Grow w w' := by
  cases hs : s.all with
  | nil => rw [show nextC s ps pst nx = zeroS by unfold nextC; rw [hs]]; exact next_nil h hs ps nx pst
  | cons t r =>
    cases hl : t.left with
    | nil => exact next_head h hs hl ps nx pst
    | cons c l =>
      have hk := h.oks t (by rw [hs]; exact List.mem_cons_self ..)
      have hc := hk.cs c (hk.sub.subset (by rw [hl]; exact List.mem_cons_self ..))
      rw [show nextC s ps pst nx = ⟨1, c.1, dataC (getC s.all c.1), 0, 0, 0⟩ by unfold nextC; rw [hs]; simp only [hl]]
      exact next_write h hs hl ⟨hc.1.1, hc.2⟩ (dataG_len h.oks _) ps nx pst
/-- a step done -/
def didC (s : CS) : Int × CS := match s.all with
  | [] => (2, s)
  | t :: r => match t.left with
    | c :: _ => (0, s.forget c.1)
    | [] => (0, { s with all := r })
theorem did_not {w : World} {v : Value} {ps nx : Nat} {pst : Int} (hI : ∀ w', Grow w w' → Calls Try.prog 30 #[v] w' fun e w1 => e = .returned (.bool false) ∧ w' = w1) : Calls Try.prog 20 #[v, .agg #[.int .u32 (ps : Int), .int .i64 pst], .int .u32 (nx : Int)] w fun e w' => e = .returned (.int .i64 1) ∧ Grow w w' := by
  have HI := Lib.hid (hI _ (Grow.alloc w (.cells #[.int .u32 (ps : Int), .int .i64 pst] 53)))
  clear hI
  go_enter Try.func20, Try.ntmps20
  go_wp2_with fail
  refine HI.out.mono ?_
  rintro e w' ⟨rfl, rfl⟩
  go_wp2_with fail
  go_ret
  exact ⟨rfl, Grow.alloc _ _⟩
/-- .. up to the switch: the step lies in a block of its own -/
theorem LSt.lt {w : World} {B : Nat} {g : G4} {s : CS} {T : List Nat} {va : Value} {xs : List CV} (h : LSt w B g s T va xs) : B < w.heap.size := (Array.getElem?_eq_some_iff.1 h.li.obj).1
theorem snth (s : SV) : (scell s).toArray[0]? = some (.int .u8 (s.kind : Int)) ∧ (scell s).toArray[1]? = some (.int .i64 s.block) := by unfold scell; simp
theorem next_len {s : CS} (h : ∀ t ∈ s.all, t.ok) (ps nx : Nat) (pst : Int) : (nextC s ps pst nx).data.length = 256 := by
  unfold nextC
  split
  · exact zeroB_ok
  · split
    · exact dataG_len h _
    · unfold headC
      split
      · exact zeroB_ok
      · split <;> exact zeroB_ok
theorem did_end {w w2 w3 : World} {B : Nat} {g : G4} {s : CS} {T : List Nat} {ga oa o n cap : Nat} {x : CV} {xs : List CV} {t : CT} {r : List CT} (h : LSt w2 B g s T (.slice (some ⟨ga, oa, none⟩) n cap) (x :: xs)) (hs : s.all = t :: r) (hn : n = s.all.length) (hg : Grow w w2) (ht : Touch [ga] w2 w3) (hB : B ≠ ga) (hk : KindAt w3 ga 82) (hr : w3.rangeAt ga o (xs.map tc5).flatten) (hth : w3.there ga o ((n - 1) * 5)) (hcap : n ≤ cap) (hmax : cap ≤ maxLen) :
    LSt (w3.setCell ⟨B, 7, none⟩ (.slice (some ⟨ga, o, none⟩) (n - 1) (n - 1))) B g { s with all := r } T (.slice (some ⟨ga, o, none⟩) (n - 1) (n - 1)) xs ∧ Touch T w (w3.setCell ⟨B, 7, none⟩ (.slice (some ⟨ga, o, none⟩) (n - 1) (n - 1))) := by
  have hxs : xs.map (·.t) = r := by have := h.all; rw [hs] at this; exact (List.cons.inj this).2
  have hlen : xs.length = n - 1 := by rw [hn, hs, ← hxs]; simp
  have ht4 : Touch [B] w3 (w3.setCell ⟨B, 7, none⟩ (.slice (some ⟨ga, o, none⟩) (n - 1) (n - 1))) := Touch.setCell _ (by simp) _
  have ht5 := ht.trans (S' := [B]) (S := [ga]) ht4
  have hobj3 : w3.heap[B]? = _ := (ht.block B h.lt (by simpa using hB)).trans h.li.obj
  have hobj := heap_set hobj3 7 (.slice (some ⟨ga, o, none⟩) (n - 1) (n - 1))
  have hkB : KindAt w2 B 71 := h.li.kindB
  have hkA : KindAt w2 ga 82 := h.li.row.lt rfl
  refine ⟨⟨⟨hobj, ?_, ?_, ?_, ?_⟩, hxs, h.b, ?_, fun y hy => h.m y (List.mem_cons_of_mem _ hy), fun y hy => h.v y (List.mem_cons_of_mem _ hy)⟩, ?_⟩
  · have h0 : GRow w3 82 5 (.slice (some ⟨ga, o, none⟩) (n - 1) (n - 1)) (xs.map tc5) :=
      ⟨fun c hc => h.li.row.1 c (by rw [List.map_cons]; exact List.mem_cons_of_mem _ hc), .inr ⟨ga, o, n - 1, by rw [List.length_map, hlen], by rw [List.length_map, hlen]; exact Nat.le_refl _, by omega, hk, hr, hth⟩⟩
    exact h0.kept ht4 (fun k hk => by cases hk; simpa using fun e => hB e.symm)
  · intro y hy
    have hy2 := h.li.is y (List.mem_cons_of_mem _ hy)
    have hy3 := hy2.kept ht (by simpa using fun e => map_ne_cells hy2.map hkA e.symm) (fun k hk => by
      have := IRow.kind hy2.bl hk
      intro hm
      rw [List.mem_singleton.1 hm] at this
      obtain ⟨C, h1⟩ := this
      obtain ⟨D, h2⟩ := hkA
      rw [h1] at h2
      simp at h2)
    have hkB3 : KindAt w3 B 71 := ⟨_, hobj3⟩
    exact hy3.kept ht4 (by simpa using fun e => map_ne_cells hy3.map hkB3 e.symm) (fun k hk => by
      have := IRow.kind hy3.bl hk
      intro hm
      rw [List.mem_singleton.1 hm] at this
      obtain ⟨C, h1⟩ := this
      obtain ⟨D, h2⟩ := hkB3
      rw [h1] at h2
      simp at h2)
  · have := h.li.nd; rw [List.map_cons, List.nodup_cons] at this; exact this.2
  · have := h.li.len; simp at this; omega
  · intro k hk; cases hk; exact h.a ga rfl
  · refine ((Touch.refl T w).trans (Touch.of_below (S := []) hg) (by simp)).trans ((ht.mono (S' := T) (fun i hi => .inl ?_)).trans (ht4.mono (S' := T) (fun i hi => .inl ?_)) (fun i hi => .inl hi)) (fun i hi => .inl hi)
    · rw [List.mem_singleton.1 hi]; exact h.a ga rfl
    · rw [List.mem_singleton.1 hi]; exact h.b
set_option maxRecDepth 100000 in
set_option maxHeartbeats 4000000 in
theorem did_ok {w : World} {B : Nat} {g : G4} {s : CS} {T : List Nat} {va : Value} {xs : List CV} (h : LSt w B g s T va xs) (ps nx : Nat) (pst : Int) : Calls Try.prog 20 #[.pointer (some ⟨B, 0, none⟩), .agg #[.int .u32 (ps : Int), .int .i64 pst], .int .u32 (nx : Int)] w fun e w' => e = .returned (.int .i64 (didC s).1) ∧ (∃ va xs, LSt w' B g (didC s).2 T va xs) ∧ Touch T w w' := by
  have hz := zero57
  have h0 := h.grow (Grow.alloc w (.cells #[.int .u32 (ps : Int), .int .i64 pst] 53))
  have HNL := Lib.hid (next_len h.oks ps nx pst)
  have HSz := Lib.hid (ssize HNL.out)
  have HS0 := Lib.hid (ssize0 HNL.out)
  have HO := Lib.hid (sone (nextC s ps pst nx))
  have HN := Lib.hid (snth (nextC s ps pst nx))
  have HI := Lib.hid (is_made (b := true) (cell_at h0.li.obj 0))
  have HX := Lib.hid (next_ok h0 ps nx pst)
  have HH := Lib.hid h0
  have HW := Lib.hid h
  obtain ⟨kd, hkd⟩ : ∃ kd, (nextC s ps pst nx).kind = kd := ⟨_, rfl⟩
  obtain ⟨bk, hbk⟩ : ∃ bk, (nextC s ps pst nx).block = bk := ⟨_, rfl⟩
  rw [hkd, hbk] at HN
  have HKD := Lib.hid hkd
  have HBK := Lib.hid hbk
  generalize (scell (nextC s ps pst nx)).toArray = Y at *
  generalize (scell zeroS).toArray = Z at *
  clear h h0 hkd hbk
  go_enter Try.func20, Try.ntmps20
  go_wp2_with fail
  refine HI.out.mono ?_
  rintro e w' ⟨rfl, rfl⟩
  go_wp2_with fail
  refine HX.out.mono ?_
  intro e w1 hp
  obtain ⟨rfl, hg1⟩ := hp
  have HG1 := Lib.hid hg1
  clear hg1
  go_upto_region 4 with (first | (refine wpList_store_row rfl 57 _ _ rfl w1.heap.size Y rfl rfl 57 Z (heap_alloc_last _ _) HSz.out HS0.out HO.out ?_))
  have hy2 : ((w1.alloc (.cells Z 57)).setRow w1.heap.size Y).heap[w1.heap.size]? = some (.cells Y 57) := setRow_heap _ _ _ _ _ _ (heap_alloc_last _ _)
  have HG2 := Lib.hid (show Grow w ((w1.alloc (.cells Z 57)).setRow w1.heap.size Y) from below_setRow ((Grow.alloc _ _).trans (HG1.out.trans (Grow.alloc _ _))) (by have := HG1.out.size; simp at this; omega) _)
  have hlo : w.heap.size ≤ w1.heap.size := by have := HG1.out.size; simp at this; omega
  generalize ((w1.alloc (.cells Z 57)).setRow w1.heap.size Y) = w2 at *
  have y0 : w2.cell? ⟨w1.heap.size, 0, none⟩ = some (.int .u8 (kd : Int)) := (cell_at hy2 0).trans HN.out.1
  have y1 : w2.cell? ⟨w1.heap.size, 1, none⟩ = some (.int .i64 bk) := (cell_at hy2 1).trans HN.out.2
  have HH2 := Lib.hid (HW.out.grow HG2.out)
  clear hy2
  cases hs : s.all with
  | nil =>
    obtain rfl : kd = 0 := by rw [← HKD.out]; unfold nextC; rw [hs]; rfl
    have HD := Lib.hid (show didC s = (2, s) by unfold didC; rw [hs])
    clear hs
    go_wp2_with fail
    go_ret
    rw [HD.out]
    exact ⟨rfl, ⟨_, _, HH2.out⟩, Touch.of_below HG2.out⟩
  | cons t r =>
    cases hl : t.left with
    | cons c l =>
      obtain rfl : kd = 1 := by rw [← HKD.out]; unfold nextC; rw [hs]; simp only [hl]
      obtain rfl : bk = c.1 := by rw [← HBK.out]; unfold nextC; rw [hs]; simp only [hl]
      have hk := HW.out.oks t (by rw [hs]; exact List.mem_cons_self ..)
      have hc := hk.cs c (hk.sub.subset (by rw [hl]; exact List.mem_cons_self ..))
      have HIc := Lib.hid hc.1.1
      have HD := Lib.hid (show didC s = (0, s.forget c.1) by unfold didC; rw [hs]; simp only [hl])
      clear hs hl hk hc
      go_wp2_with fail
      refine (forget_ok HH2.out c.1 HIc.out).mono ?_
      intro e w3 hp
      obtain ⟨rfl, h3, ht3⟩ := hp
      have H3 := Lib.hid h3
      have HT3 := Lib.hid ht3
      clear h3 ht3
      go_wp2_with fail
      go_ret
      rw [HD.out]
      exact ⟨rfl, ⟨_, _, H3.out⟩, ((Touch.refl T w).trans (Touch.of_below (S := []) HG2.out) (by simp)).trans HT3.out (fun i hi => .inl hi)⟩
    | nil =>
      obtain rfl : kd = 2 := by
        rw [← HKD.out]; unfold nextC; rw [hs]; simp only [hl]
        unfold headC
        split
        · rfl
        · split <;> rfl
      have HD := Lib.hid (show didC s = (0, { s with all := r }) by unfold didC; rw [hs]; simp only [hl])
      obtain ⟨a, cap, rfl⟩ := HH2.out.va
      have hrl := HH2.out.rowlen
      rw [hs] at hrl
      cases xs with
      | nil => simp at hrl
      | cons x xs =>
        obtain ⟨ga, oa, rfl, hr, _⟩ := HH2.out.li.elem (k := 0) rfl
        rw [Nat.zero_mul, Nat.add_zero] at hr
        have hrow := HH2.out.li.row.2
        rcases hrow with ⟨h1, h2⟩ | ⟨g', o', cap', hv, hcap, hmax, hkind, hran, hth⟩
        · cases h2
        · simp only [Value.slice.injEq, Option.some.injEq, Addr.mk.injEq, and_true] at hv
          obtain ⟨⟨rfl, rfl⟩, hvn, rfl⟩ := hv
          obtain ⟨n, hn⟩ : ∃ n, n = s.all.length := ⟨_, rfl⟩
          have hn0 : 0 < n := by rw [hn, hs]; simp
          have hmn : ((x :: xs).map tc5).length = n := by rw [List.length_map, hn]; exact HH2.out.rowlen
          rw [hmn] at hcap
          have c7 : w2.cell? ⟨B, 7, none⟩ = some (.slice (some ⟨ga, oa, none⟩) n cap) := by rw [hn]; exact cell_at HH2.out.li.obj 7
          have f7 := frozen_at HH2.out.li.obj 7
          have HTH := Lib.hid (show w2.there ga oa 5 from fun j hj => hth j (by have := Nat.mul_le_mul_right 5 hcap; omega))
          have HCP := Lib.hid hcap
          have hcapn : (n : Int) ≤ (cap : Int) := by omega
          have HMX := Lib.hid hmax
          have k0 : w2.cell? ⟨ga, oa, none⟩ = some (.int .u32 (x.t.seq : Int)) := hr 0 _ rfl
          have k1 : w2.cell? ⟨ga, oa + 1, none⟩ = some (.int .i64 x.t.start) := hr 1 _ rfl
          have k2 : w2.cell? ⟨ga, oa + 2, none⟩ = some (.int .i64 x.t.count) := hr 2 _ rfl
          have k3 : w2.cell? ⟨ga, oa + 3, none⟩ = some x.vb := hr 3 _ rfl
          have k4 : w2.cell? ⟨ga, oa + 4, none⟩ = some (.map (some x.m)) := hr 4 _ rfl
          have q0 : w2.frozen? ⟨ga, oa, none⟩ = false := (HTH.out 0 (by omega)).2
          have q1 : w2.frozen? ⟨ga, oa + 1, none⟩ = false := (HTH.out 1 (by omega)).2
          have q2 : w2.frozen? ⟨ga, oa + 2, none⟩ = false := (HTH.out 2 (by omega)).2
          have q3 : w2.frozen? ⟨ga, oa + 3, none⟩ = false := (HTH.out 3 (by omega)).2
          have q4 : w2.frozen? ⟨ga, oa + 4, none⟩ = false := (HTH.out 4 (by omega)).2
          have hTW : Touch [ga] w2 (((((w2.setCell ⟨ga, oa, none⟩ (.int .u32 0)).setCell ⟨ga, oa + 1, none⟩ (.int .i64 0)).setCell ⟨ga, oa + 2, none⟩ (.int .i64 0)).setCell ⟨ga, oa + 3, none⟩ (.slice none 0 0)).setCell ⟨ga, oa + 4, none⟩ (.map none)) := touch_setCells (S := [ga]) (by simp) [.int .u32 0, .int .i64 0, .int .i64 0, .slice none 0 0, .map none] oa w2
          have HTW := Lib.hid hTW
          have HKW := Lib.hid (show KindAt (((((w2.setCell ⟨ga, oa, none⟩ (.int .u32 0)).setCell ⟨ga, oa + 1, none⟩ (.int .i64 0)).setCell ⟨ga, oa + 2, none⟩ (.int .i64 0)).setCell ⟨ga, oa + 3, none⟩ (.slice none 0 0)).setCell ⟨ga, oa + 4, none⟩ (.map none)) ga 82 from KindAt.setCells [.int .u32 0, .int .i64 0, .int .i64 0, .slice none 0 0, .map none] ga oa w2 hkind)
          have HTHW := Lib.hid (show (((((w2.setCell ⟨ga, oa, none⟩ (.int .u32 0)).setCell ⟨ga, oa + 1, none⟩ (.int .i64 0)).setCell ⟨ga, oa + 2, none⟩ (.int .i64 0)).setCell ⟨ga, oa + 3, none⟩ (.slice none 0 0)).setCell ⟨ga, oa + 4, none⟩ (.map none)).there ga oa (cap * 5) from World.there_setCells hth ga oa [.int .u32 0, .int .i64 0, .int .i64 0, .slice none 0 0, .map none])
          have HRW := Lib.hid (show (((((w2.setCell ⟨ga, oa, none⟩ (.int .u32 0)).setCell ⟨ga, oa + 1, none⟩ (.int .i64 0)).setCell ⟨ga, oa + 2, none⟩ (.int .i64 0)).setCell ⟨ga, oa + 3, none⟩ (.slice none 0 0)).setCell ⟨ga, oa + 4, none⟩ (.map none)).rangeAt ga (oa + 5) (xs.map tc5).flatten from fun j v hj => by
            have h1 := hran (5 + j) v (by rw [List.map_cons, List.flatten_cons, List.getElem?_append_right (by simp [tc5])]; simpa [tc5] using hj)
            rw [← Nat.add_assoc] at h1
            rw [← h1]
            exact World.cell?_setCells_out ga [.int .u32 0, .int .i64 0, .int .i64 0, .slice none 0 0, .map none] oa w2 _ (fun _ _ => .inr (by simp only [List.length_cons, List.length_nil]; omega)))
          have HGB := Lib.hid (show B ≠ ga from fun e => by
            obtain ⟨C, hC⟩ := hkind
            subst e
            rw [HH2.out.li.obj] at hC
            simp at hC)
          have HHN := Lib.hid hn
          have HHS := Lib.hid hs
          clear hn hs hl hr hrl hmn hkind hran hth hTW hvn
          go_upto_region 12 with (fail)
          generalize (((((w2.setCell ⟨ga, oa, none⟩ (.int .u32 0)).setCell ⟨ga, oa + 1, none⟩ (.int .i64 0)).setCell ⟨ga, oa + 2, none⟩ (.int .i64 0)).setCell ⟨ga, oa + 3, none⟩ (.slice none 0 0)).setCell ⟨ga, oa + 4, none⟩ (.map none)) = w3 at *
          clear k0 k1 k2 k3 k4 q0 q1 q2 q3 q4 y0 y1
          have c7 : w3.cell? ⟨B, 7, none⟩ = some (.slice (some ⟨ga, oa, none⟩) n cap) := by rw [HTW.out.cell (a := ⟨B, 7, none⟩) HH2.out.lt (by simpa using HGB.out)]; exact c7
          have f7 : w3.frozen? ⟨B, 7, none⟩ = false := by rw [HTW.out.frozen (a := ⟨B, 7, none⟩) HH2.out.lt (by simpa using HGB.out)]; exact f7
          by_cases h1 : n = 1
          · subst h1
            have HX := Lib.hid (show xs = [] by have := HH2.out.rowlen; rw [← HHN.out] at this; simpa using this)
            go_wp2_with fail
            go_ret
            rw [HD.out]
            rw [← HHN.out] at HH2
            have := did_end (o := oa) HH2.out HHS.out HHN.out HG2.out HTW.out HGB.out HKW.out (by rw [HX.out]; intro j v hj; simp at hj) (by intro j hj; omega) HCP.out HMX.out
            exact ⟨rfl, ⟨_, _, this.1⟩, this.2⟩
          · have b1 : (1 : Int) < (n : Int) := by omega
            go_wp2_with fail
            go_ret
            rw [HD.out]
            rw [← HHN.out] at HH2
            have := did_end (o := oa + 5) HH2.out HHS.out HHN.out HG2.out HTW.out HGB.out HKW.out HRW.out (by intro j hj; have := HTHW.out (5 + j) (by have := HCP.out; omega); rwa [← Nat.add_assoc] at this) HCP.out HMX.out
            exact ⟨rfl, ⟨_, _, this.1⟩, this.2⟩
#print axioms did_ok
end Go.Proofs.Ytokehhegomiciaa
