/- The law ChkptDrains: the walk. -/
import Derived.Test.YtokehhegomiciaaH30
set_option linter.unusedVariables false
set_option linter.unusedSimpArgs false
namespace Go.Proofs.Ytokehhegomiciaa
open Go.RowKit Go.Maps

theorem under57 : Try.prog.underlying 57 = some (.struct (Try.prog.fieldsOf 57)) := by kernel_rfl
theorem fields57 : (Try.prog.fieldsOf 57)[0]?.map (fun f => (f.type, f.offset)) = some (5, 0) := by kernel_rfl
theorem run_kind {C : Array Value} {v : Value} (h : C[0]? = some v) (w : World) : (Instr.field 57 (.agg C) 0).run Try.prog w = .ok v w := by
  obtain ⟨f, hf, he⟩ := Option.map_eq_some_iff.1 fields57
  simp only [Prod.mk.injEq] at he
  unfold Instr.field
  simp only [Sem.run_bind, run_underlying under57, Result.andThen_ok, hf, he.1, he.2, asAgg, Sem.run_pure]
  exact run_part_plain w plain5 h
def nwC (al : List CT) (zs : List Int) : List (List Value) := zs.map fun z => bc (dataC (getC al z))
theorem nwC_at {al : List CT} {zs : List Int} {k : Nat} {z : Int} (h : zs[k]? = some z) : (nwC al zs)[k]? = some (bc (dataC (getC al z))) := by unfold nwC; rw [List.getElem?_map, h]; rfl
theorem nwC_next {al : List CT} {zs : List Int} {k : Nat} {z : Int} (h : zs[k]? = some z) : nwC al (zs.take (k + 1)) = nwC al (zs.take k) ++ [bc (dataC (getC al z))] := by unfold nwC; rw [List.take_add_one, h, List.map_append]; rfl
structure NInv (al : List CT) (zs : List Int) (w3 : World) (k : Nat) (v : Value) (wr : World) : Prop where
  row : Row wr 33 256 v (nwC al (zs.take k))
  lo : ∀ q, v.ownBlock = some q → w3.heap.size ≤ q
  grow : Grow w3 wr
structure DrInv (g : G4) (s0 : CS) (zs : List Int) (tk : List AV) (B : Nat) (T : List Nat) (w4 : World) (s : CS) (Wc Hc : Nat) (wr : World) : Prop where
  inv : DInv s0 zs tk s Wc Hc
  ls : ∃ va xs, LSt wr B g s T va xs
  touch : Touch T w4 wr
theorem take_mem {zs : List Int} {k : Nat} {z : Int} (h : zs[k]? = some z) (b : Int) : decide (b ∈ zs.take (k + 1)) = (decide (b ∈ zs.take k) || decide (z = b)) := by
  rw [List.take_add_one, h, Bool.eq_iff_iff]
  simp only [Option.toList, List.mem_append, List.mem_singleton, decide_eq_true_iff, Bool.or_eq_true]
  exact or_congr Iff.rfl ⟨fun h => h.symm, fun h => h.symm⟩
theorem heads_next {r : List CT} {tk : List AV} {h : Nat} (he : r.map hdrT = (tk.drop (h + 1)).map hdrA) (hl : h < tk.length) : (r = [] ∧ h + 1 = tk.length) ∨ ∃ u r' y, r = u :: r' ∧ tk[h + 1]? = some y ∧ u.seq = y.seq ∧ u.start = y.start := by
  cases r with
  | nil =>
    refine .inl ⟨rfl, ?_⟩
    have := congrArg List.length he
    simp only [List.map_nil, List.length_nil, List.length_map, List.length_drop] at this
    omega
  | cons u r' =>
    by_cases h1 : h + 1 < tk.length
    · rw [List.drop_eq_getElem_cons h1, List.map_cons, List.map_cons] at he
      injection he with e1 e2
      exact .inr ⟨u, r', tk[h + 1], rfl, List.getElem?_eq_getElem h1, congrArg Prod.fst e1, congrArg (fun p => p.2.1) e1⟩
    · rw [List.drop_eq_nil_of_le (by omega)] at he
      cases he
theorem next_heads {s : CS} {t : CT} {r : List CT} {tk : List AV} {h : Nat} (ps nx : Nat) (pst : Int) (hs : s.all = t :: r) (hl : t.left = []) (he : r.map hdrT = (tk.drop (h + 1)).map hdrA) (hlt : h < tk.length) :
    ∃ (hq : Nat) (hst : Int), nextC s ps pst nx = ⟨2, 0, zeroB, hq, hst, t.count⟩ ∧ ((∃ y, tk[h + 1]? = some y ∧ y.seq = hq ∧ y.start = hst) ∨ (h + 1 = tk.length ∧ 0 < pst ∧ ps = hq ∧ pst = hst) ∨ (h + 1 = tk.length ∧ pst ≤ 0 ∧ nx = hq ∧ 0 = hst)) := by
  have h0 : nextC s ps pst nx = headC r t.count ps pst nx := by unfold nextC; rw [hs]; simp only [hl]
  rw [h0]
  rcases heads_next he hlt with ⟨rfl, h1⟩ | ⟨u, r', y, rfl, h1, h2, h3⟩
  · unfold headC
    simp only
    by_cases hp : 0 < pst
    · rw [if_pos hp]; exact ⟨ps, pst, rfl, .inr (.inl ⟨h1, hp, rfl, rfl⟩)⟩
    · rw [if_neg hp]; exact ⟨nx, 0, rfl, .inr (.inr ⟨h1, by omega, rfl, rfl⟩)⟩
  · exact ⟨u.seq, u.start, rfl, .inl ⟨y, h1, h2.symm, h3.symm⟩⟩
theorem left_filter {s0 : CS} {zs : List Int} {tk : List AV} {s : CS} {W H : Nat} (h : DInv s0 zs tk s W H) (hr : Rising (leftP s0.all) zs) : Rising (leftP s.all) (zs.filter (leftP s.all)) :=
  ⟨hr.lt.sublist List.filter_sublist, fun i => by
    rw [List.mem_filter]
    exact ⟨fun h1 => h1.2, fun h1 => ⟨(h.sub i h1).1, h1⟩⟩⟩
theorem left_nil {s : CS} (hs : s.all = []) {zs : List Int} (h : Rising (leftP s.all) zs) : zs = [] := by
  cases zs with
  | nil => rfl
  | cons z zs =>
    have := (h.mem z).1 (List.mem_cons_self ..)
    rw [hs] at this
    cases this
set_option maxRecDepth 100000 in
theorem buildSlice_blk (x : Blk) (hx : x.length = 256) (w : World) : (Instr.buildSlice 50 1 #[(0, .agg (bc x).toArray)]).run Try.prog w = .ok (.slice (some ⟨w.heap.size, 0, none⟩) 1 1) (w.alloc (.cells (bc x).toArray 33)) := by
  obtain ⟨i0, hi, hz0, hz1, hz2⟩ := info_parts info32b
  have hl : (bc x).length = 256 := by rw [bc_length, hx]
  generalize bc x = c at *
  have hfill : Instr.fill (fun i => some (i * 256, 256)) ((Array.range 256).map ((bc zeroB).toArray[· % (bc zeroB).toArray.size]!)) [(0, .agg c.toArray)] = some c.toArray := by
    rw [fill_cons (off := 0 * 256) (size := 256) rfl (by show c.toArray.size = 256; rw [List.size_toArray, hl]) (by simp), Instr.fill]
    congr 2
    rw [Nat.zero_mul]
    exact setMany_all _ _ (by show _ = c.toArray.toList.length; simp [hl])
  unfold Instr.buildSlice
  simp only [Sem.run_bind, run_underlying Try.underlying50, Result.andThen_ok, sizeOf, typeInfo, hi, hz1, zeroValue, hz0]
  simp [hi, hz1, hz0]
  rw [show (Value.agg (bc zeroB).toArray).cells = (bc zeroB).toArray from rfl, hfill]
  simp [newRow, go_sem]
set_option maxRecDepth 100000 in
set_option maxHeartbeats 16000000 in
theorem drains_walk {W : World} {v : Value} {l : List AV} (g : G4) (hA : ASee W v l) (hl : l.length ≤ 9223372036854775807) (hcl : ∀ x ∈ l, x.cs.length ≤ 9223372036854775807 ∧ x.rs.length ≤ 9223372036854775807) (ps nx : Nat) (pst : Int) :
    Calls Try.prog 5 #[.agg #[.int .i64 g.gr, .int .i64 g.sz, .int .i64 g.ni, .int .i64 g.jr], v, .agg #[.int .u32 (ps : Int), .int .i64 pst], .int .u32 (nx : Int)] W fun e w' => e = .returned (.bool true) ∧ Grow W w' := by
  have HA := Lib.hid hA
  have HGR := Lib.hid (show ∀ w, Grow W w → Calls Try.prog 8 #[v] w fun e w' => ∃ b, e = .returned (.bool b) ∧ Grow w w' ∧ (b = false → Small l) from fun w hg => great_ok (hA.grow hg) hl hcl)
  have hz := zero32
  have hz57 := zero57
  have hsz := zero_size
  generalize hZ : (bc zeroB).toArray = Z at *
  have HZ0 := Lib.hid hsz
  have HSB : ∀ x : Blk, x.length = 256 → Hid ((Try.prog.info? 33).map (·.size) = some (bc x).toArray.size) := fun x hx => Lib.hid (by rw [List.size_toArray, bc_length, hx]; exact size32)
  have HSL : ∀ x : Blk, x.length = 256 → Hid ((Try.prog.info? 33).map (·.size) = some (bc x).length) := fun x hx => Lib.hid (by rw [bc_length, hx]; exact size32)
  have HSE : ∀ x : Blk, x.length = 256 → Hid (Z.size = (bc x).toArray.size) := fun x hx => Lib.hid (by rw [HZ0.out, List.size_toArray, bc_length, hx])
  have HOB : ∀ x : Blk, Hid ((bc x).toArray.all (·.oneCell') = true) := fun x => Lib.hid (all_oneCell_toArray (bc_one _))
  have HSz := Lib.hid (show ∀ s : SV, s.data.length = 256 → (Try.prog.info? 57).map (·.size) = some (scell s).toArray.size from fun s h => ssize h)
  have HSz0 := Lib.hid (show ∀ s : SV, s.data.length = 256 → (scell zeroS).toArray.size = (scell s).toArray.size from fun s h => ssize0 h)
  generalize hZ5 : (scell zeroS).toArray = Z57 at *
  have HZ57 := Lib.hid hZ5
  obtain ⟨i0, hi0, hq0, hq1, hq2⟩ := info_parts info32b
  rw [hZ] at hq0
  have HI0 := Lib.hid hi0
  clear hA hl hcl hZ hsz hZ5 hi0
  have H40 := Lib.hid (heap_one W (.cells #[.int .i64 g.gr, .int .i64 g.sz, .int .i64 g.ni, .int .i64 g.jr] 23) (.cells #[.int .u32 (ps : Int), .int .i64 pst] 53))
  have HH0 := Lib.hid (heap_two W (.cells #[.int .i64 g.gr, .int .i64 g.sz, .int .i64 g.ni, .int .i64 g.jr] 23) (.cells #[.int .u32 (ps : Int), .int .i64 pst] 53))
  have HG0 := Lib.hid (show Grow W ((W.alloc (.cells #[.int .i64 g.gr, .int .i64 g.sz, .int .i64 g.ni, .int .i64 g.jr] 23)).alloc (.cells #[.int .u32 (ps : Int), .int .i64 pst] 53)) from (Grow.alloc _ _).trans (Grow.alloc _ _))
  generalize hW0 : (W.alloc (.cells #[.int .i64 g.gr, .int .i64 g.sz, .int .i64 g.ni, .int .i64 g.jr] 23)).alloc (.cells #[.int .u32 (ps : Int), .int .i64 pst] 53) = w0 at *
  have HW0 := Lib.hid hW0
  obtain ⟨GB, hGB⟩ : ∃ GB, GB = W.heap.size := ⟨_, rfl⟩
  obtain ⟨HB, hHB⟩ : ∃ HB, HB = W.heap.size + 1 := ⟨_, rfl⟩
  rw [← hGB] at H40
  rw [← hHB] at HH0
  have HGBe := Lib.hid hGB
  have HHBe := Lib.hid hHB
  clear hW0 hGB hHB
  go_enter Try.func5, Try.ntmps5
  go_upto_region 1 with fail
  rw [HW0.out, ← HHBe.out, ← HGBe.out]
  go_wp2_with fail
  refine (HGR.out _ HG0.out).mono ?_
  intro e w1 hp
  obtain ⟨gb, rfl, hg1, hsm⟩ := hp
  have HG1 := Lib.hid hg1
  have HSM := Lib.hid hsm
  clear hg1 hsm
  cases gb with
  | true =>
    go_wp2_with fail
    go_ret
    exact ⟨rfl, HG0.out.trans HG1.out⟩
  | false =>
    have HS := Lib.hid (HSM.out rfl)
    have HGW1 := Lib.hid (show Grow W w1 from HG0.out.trans HG1.out)
    have h41 := (HG1.out.block GB (Array.getElem?_eq_some_iff.1 H40.out).1).trans H40.out
    have HH1 := Lib.hid ((HG1.out.block HB (Array.getElem?_eq_some_iff.1 HH0.out).1).trans HH0.out)
    have HHL1 := Lib.hid (Array.getElem?_eq_some_iff.1 HH1.out).1
    have k0 := cell_at h41 0
    have k1 := cell_at h41 1
    have k2 := cell_at h41 2
    have k3 := cell_at h41 3
    simp only [List.getElem?_toArray, List.getElem?_cons_zero, List.getElem?_cons_succ] at k0 k1 k2 k3
    clear h41 H40 HH0 HW0 HGBe HHBe HG0 HG1 HSM HGR
    go_wp2_with fail
    refine (added_ok (g := g) (HA.out.grow HGW1.out) HS.out).mono ?_
    intro e w2 hp
    rcases hp with ⟨hM, rfl, hg2⟩ | ⟨hM, B, T, vt, rfl, hinv⟩
    · have HG2 := Lib.hid (HGW1.out.trans hg2)
      clear k0 k1 k2 k3 hg2
      go_wp2_with fail
      refine (awake_ok _).mono ?_
      intro e w3 hp
      obtain ⟨rfl, hg3⟩ := hp
      have HG3 := Lib.hid (HG2.out.trans hg3)
      clear hg3
      go_wp2_with fail
      go_ret
      exact ⟨rfl, HG3.out⟩
    · have HI := Lib.hid hinv
      obtain ⟨va, xs, hls⟩ := hinv.ls
      rw [List.take_length] at hls
      have HL2 := Lib.hid hls
      have HR2 := Lib.hid (show ARow w2 vt (runA g l).2 by have := hinv.row; rwa [List.take_length] at this)
      have HG2 := Lib.hid (show Grow W w2 from HGW1.out.trans hinv.grow)
      have hri := runA_inv g l
      have hn60 : (runA g l).2.length ≤ 60 := Nat.le_trans hri.2.length_le HS.out.1
      have HNL := Lib.hid hri.1
      have HRUN := Lib.hid (hdr_run g l)
      generalize (runA g l).1 = s0 at *
      generalize (runA g l).2 = tk at *
      obtain ⟨av, cv, hvt⟩ := Row.len HR2.out
      rw [List.length_map] at hvt
      obtain ⟨nt, hnt⟩ : ∃ nt, nt = tk.length := ⟨_, rfl⟩
      rw [← hnt] at hvt hn60
      subst hvt
      have HNT := Lib.hid hnt
      clear k0 k1 k2 k3 hls hinv hri hM hnt
      go_wp2_with fail
      refine (left_ok HL2.out).mono ?_
      intro e w3 hp
      unfold LeftPost at hp
      obtain ⟨vl, zs, rfl, hz3, hr3, hlen3, hg3, hlo3⟩ := hp
      obtain ⟨al, cl, hvl⟩ := hz3.len
      obtain ⟨nl, hnl⟩ : ∃ nl, nl = zs.length := ⟨_, rfl⟩
      rw [← hnl] at hvl hlen3
      subst hvl
      have HNLz := Lib.hid hnl
      have HZ3 := Lib.hid hz3
      have HRI := Lib.hid hr3
      have HLO3 := Lib.hid hlo3
      have HG3 := Lib.hid hg3
      have HL3 := Lib.hid (HL2.out.grow hg3)
      clear hz3 hr3 hg3 hlo3 hnl
      go_wp2_with fail
      go_loopw [13, 14] (fun t13 t14 wr => ∃ k : Nat, k ≤ nl ∧ t14 = .int .i64 (k : Int) ∧ (∃ a c, t13 = .slice a k c) ∧ Hid (NInv s0.all zs w3 k t13 wr)) (fun _ t14 _ => nl - (intOf t14).toNat)
      case atStart => exact ⟨0, by omega, by go_num, ⟨_, _, rfl⟩, Lib.hid ⟨rowNil _ _ _, fun q hq => (by cases hq), Grow.refl _⟩⟩
      case round =>
        obtain ⟨k, hkn, rfl, ⟨a9, c9, rfl⟩, HK⟩ := hrel
        by_cases hk : k < nl
        · obtain ⟨z, hx⟩ : ∃ z, zs[k]? = some z := ⟨zs[k]'(by rw [← HNLz.out]; exact hk), by simp⟩
          obtain ⟨gl, ol, rfl, hgl, hcz, hzi⟩ := (HZ3.out.grow HK.out.grow).at_ hx
          have HX := Lib.hid hx
          have HLr := Lib.hid (HL3.out.grow HK.out.grow)
          have HXL := Lib.hid (show (dataC (getC s0.all z)).length = 256 from dataG_len HL3.out.oks z)
          have HNX := Lib.hid (nwC_next (al := s0.all) hx)
          have b0 : (0 : Int) ≤ (k : Int) := by omega
          have b1 : (k : Int) < (nl : Int) := by omega
          have HZI := Lib.hid hzi
          clear hx hgl hzi
          go_wp2_with fail
          refine (get_ok HLr.out z HZI.out).mono ?_
          intro e w5 hp
          obtain ⟨rfl, hg5⟩ := hp
          generalize dataC (getC s0.all z) = X at *
          generalize (getC s0.all z).isSome = xo at *
          have HG5 := Lib.hid (HK.out.grow.trans hg5)
          have HR5 := Lib.hid (Row.kept (S := []) HK.out.row (Touch.of_below hg5) (by simp))
          clear hg5 hcz
          go_upto_region 12 with (refine wpList_store_row rfl 33 _ _ rfl w5.heap.size (bc X).toArray rfl rfl 33 Z (heap_alloc_last _ _) (HSB X HXL.out).out (HSE X HXL.out).out (HOB X).out ?_)
          have HB6 := Lib.hid (show ((w5.alloc (.cells Z 33)).setRow w5.heap.size (bc X).toArray).heap[w5.heap.size]? = some (.cells (bc X).toArray 33) from setRow_heap _ _ _ _ _ _ (heap_alloc_last _ _))
          have hg56 : Grow w5 ((w5.alloc (.cells Z 33)).setRow w5.heap.size (bc X).toArray) := below_setRow (Grow.alloc _ _) (Nat.le_refl _) _
          have HG6 := Lib.hid (HG5.out.trans hg56)
          have HR6 := Lib.hid (Row.kept (S := []) HR5.out (Touch.of_below hg56) (by simp))
          clear hg56
          generalize (w5.alloc (.cells Z 33)).setRow w5.heap.size (bc X).toArray = w6 at *
          have HBS := Lib.hid (buildSlice_blk X HXL.out)
          have hlk : (nwC s0.all (zs.take k)).length ≤ 600000 := by unfold nwC; rw [List.length_map, List.length_take]; omega
          have HLK := Lib.hid hlk
          clear hlk
          go_wp2_with (first | (refine wpList_load_row rfl 33 _ rfl w5.heap.size rfl 33 (bc X).toArray (0, 0) _ HB6.out Try.underlying33 rfl (HSB X HXL.out).out ?_) | (refine wpList_buildSlice rfl 50 1 _ rfl (by simp only [List.map_toArray, List.map_cons, List.map_nil]; exact HBS.out _) ?_) | (at_builtin; go_loud (refine wpList_append_row rfl _ _ 50 rfl 33 i0 (.agg Z) 256 256 Try.underlying50 HI0.out hq0 hq1 hq2 HZ0.out (by omega) (.slice a9 k c9) (nwC s0.all (zs.take k)) rfl (Row.kept HR6.out (Touch.alloc [] _ _) (by simp)) _ 1 (bc X) rfl (by rw [bc_length]; exact HXL.out) (new_cells _ _ _) (bc_one X) (by have := HLK.out; omega) (by omega) ?_); intro v' wa happ htch))
          have HK2 := Lib.hid (show NInv s0.all zs w3 (k + 1) v' wa from {
            row := by rw [HNX.out]; exact happ.1
            lo := fun q hq => by
              rcases happ.2 with h1 | ⟨g', h1, h2⟩
              · exact HK.out.lo q (h1 ▸ hq)
              · rw [hq] at h1
                cases h1
                have h3 := HG6.out.size
                simp at h2
                omega
            grow := Below.trans (HG6.out.trans (Grow.alloc _ _)) (htch.below (Nat.le_trans HG6.out.size (by simp)) (fun q hq => HK.out.lo q (ownL_mem.1 hq))) })
          obtain ⟨a10, c10, hv10⟩ := Row.len HK2.out.row
          rw [show (nwC s0.all (zs.take (k + 1))).length = k + 1 by unfold nwC; rw [List.length_map, List.length_take]; have := HNLz.out; omega] at hv10
          clear happ htch
          go_roundw
          case rel => exact ⟨k + 1, by omega, by go_num, ⟨_, _, hv10⟩, HK2⟩
          case measure => simp [intOf]; omega
        · obtain rfl : k = nl := by omega
          rename World => w4
          have HN4 := Lib.hid (show Row w4 33 256 (.slice a9 k c9) (nwC s0.all zs) by have := HK.out.row; rwa [HNLz.out, List.take_length, ← HNLz.out] at this)
          have HNLO := Lib.hid HK.out.lo
          have HG34 := Lib.hid HK.out.grow
          have HZ4 := Lib.hid (HZ3.out.grow HG34.out)
          have HT4 := Lib.hid (show ARow w4 (.slice av nt cv) tk from Row.kept (S := []) HR2.out (Touch.of_below (HG3.out.trans HG34.out)) (by simp))
          have HL4 := Lib.hid (HL3.out.grow HG34.out)
          have HGW4 := Lib.hid (HG2.out.trans (HG3.out.trans HG34.out))
          have HH4 := Lib.hid ((Below.block (Grow.trans HI.out.grow (HG3.out.trans HG34.out)) HB HHL1.out).trans HH1.out)
          have hwz : IntKind.i64.wrap ((k : Int) + (nt : Int)) = ((k + nt : Nat) : Int) := by rw [IntKind.wrap_i64] <;> omega
          clear HK HR2 HG2 HL2 HL3 HZ3 HSB HSE HOB HI0 hq0 hq1 hq2
          have HHL4 := Lib.hid (Array.getElem?_eq_some_iff.1 HH4.out).1
          have HHT := Lib.hid (show HB ∉ T from fun hm => by have := (HI.out.lo HB hm).1; have := HHL1.out; omega)
          have HTB4 := Lib.hid (show ∀ q ∈ T, q < w2.heap.size from fun q hq => (HI.out.lo q hq).2)
          have HDZ := Lib.hid (show ∀ q, (Value.slice al k cl).ownBlock = some q → q ∉ T from fun q hq hm => by have := HTB4.out q hm; have := HLO3.out q hq; omega)
          have HDN := Lib.hid (show ∀ q, (Value.slice a9 k c9).ownBlock = some q → q ∉ T from fun q hq hm => by have := HTB4.out q hm; have := HNLO.out q hq; have := HG3.out.size; omega)
          have HDT := Lib.hid (show ∀ q, (Value.slice av nt cv).ownBlock = some q → q ∉ T from fun q hq => (HI.out.vt q hq).2)
          have HT24 := Lib.hid (show w2.heap.size ≤ w4.heap.size from Nat.le_trans HG3.out.size HG34.out.size)
          have HTW := Lib.hid (show ∀ q ∈ T, W.heap.size ≤ q from fun q hq => Nat.le_trans HGW1.out.size (HI.out.lo q hq).1)
          clear HI HH1 HHL1 HG3 HG34 HLO3 HNLO HA HS HNL
          go_wp2_with fail
          go_loopw [17, 18, 19] (fun t17 t18 t19 wq => ∃ (m Wc Hc : Nat) (s : CS), t17 = .int .i64 (Wc : Int) ∧ t18 = .int .i64 (Hc : Int) ∧ t19 = .int .i64 (m : Int) ∧ m + Wc + Hc = k + nt ∧ Hid (DrInv g s0 zs tk B T w4 s Wc Hc wq)) (fun _ _ t19 _ => (intOf t19).toNat)
          case atStart => exact ⟨k + nt, 0, 0, s0, by go_num, by go_num, by first | go_num | rw [hwz] | rfl, by omega, Lib.hid ⟨DInv.start HRI.out HRUN.out, ⟨_, _, HL4.out⟩, Touch.refl _ _⟩⟩
          case round =>
            rename World => wq
            obtain ⟨m, Wc, Hc, s, rfl, rfl, rfl, hsum, HK⟩ := hrel
            obtain ⟨va5, xs5, hls⟩ := HK.out.ls
            have HL := Lib.hid hls
            have HTQ := Lib.hid HK.out.touch
            have c0 : wq.cell? ⟨HB, 0, none⟩ = some (.int .u32 (ps : Int)) := (Touch.cell HTQ.out (a := ⟨HB, 0, none⟩) HHL4.out HHT.out).trans (cell_at HH4.out 0)
            have c1 : wq.cell? ⟨HB, 1, none⟩ = some (.int .i64 pst) := (Touch.cell HTQ.out (a := ⟨HB, 1, none⟩) HHL4.out HHT.out).trans (cell_at HH4.out 1)
            clear hls hwz
            by_cases hm : 0 < m
            · obtain ⟨m', rfl⟩ : ∃ m', m = m' + 1 := ⟨m - 1, by omega⟩
              have b0 : (0 : Int) < ((m' + 1 : Nat) : Int) := by omega
              have hwm : IntKind.i64.wrap (((m' + 1 : Nat) : Int) - 1) = (m' : Int) := by rw [IntKind.wrap_i64] <;> omega
              go_wp2_with fail
              refine (next_ok HL.out ps nx pst).mono ?_
              intro e w5 hp
              obtain ⟨rfl, hg5⟩ := hp
              have HL5 := Lib.hid (HL.out.grow hg5)
              have HT5 := Lib.hid (show Touch T w4 w5 from HTQ.out.trans (Touch.of_below (S := []) hg5) (by simp))
              have HNL0 := Lib.hid (next_len HL.out.oks ps nx pst)
              have HSY := Lib.hid (HSz.out _ HNL0.out)
              have HSY0 := Lib.hid (HSz0.out _ HNL0.out)
              have HOS := Lib.hid (sone (nextC s ps pst nx))
              obtain ⟨Y, hY⟩ : ∃ Y, (scell (nextC s ps pst nx)).toArray = Y := ⟨_, rfl⟩
              rw [hY] at HSY HSY0 HOS ⊢
              have HYe := Lib.hid hY
              clear hg5 c0 c1 hY
              go_upto_region 18 with (refine wpList_store_row rfl 57 _ _ rfl w5.heap.size Y rfl rfl 57 Z57 (heap_alloc_last _ _) HSY.out HSY0.out HOS.out ?_)
              have HY6 := Lib.hid (show ((w5.alloc (.cells Z57 57)).setRow w5.heap.size Y).heap[w5.heap.size]? = some (.cells Y 57) from setRow_heap _ _ _ _ _ _ (heap_alloc_last _ _))
              have hg56 : Grow w5 ((w5.alloc (.cells Z57 57)).setRow w5.heap.size Y) := below_setRow (Grow.alloc _ _) (Nat.le_refl _) _
              generalize (w5.alloc (.cells Z57 57)).setRow w5.heap.size Y = w6 at *
              obtain ⟨S, hS⟩ : ∃ S, S = w5.heap.size := ⟨_, rfl⟩
              rw [← hS] at HY6 ⊢
              have HSe := Lib.hid hS
              have HL6 := Lib.hid (HL5.out.grow hg56)
              have HT6 := Lib.hid (show Touch T w4 w6 from HT5.out.trans (Touch.of_below (S := []) hg56) (by simp))
              have HTB := Lib.hid (show ∀ q ∈ T, q < w6.heap.size from fun q hq => Nat.lt_of_lt_of_le (HTB4.out q hq) (Nat.le_trans HT24.out HT6.out.size))
              have HZ6 := Lib.hid (HZ4.out.touch HT6.out (fun q hq _ => HDZ.out q hq))
              have HN6 := Lib.hid (Row.kept HN4.out HT6.out HDN.out)
              have HA6 := Lib.hid (show Row w6 43 6 (.slice av nt cv) (tk.map acell) from Row.kept HT4.out HT6.out HDT.out)
              clear hg56 hS HL HL5 HT5 HTQ HSY HSY0 HOS
              cases hs : s.all with
              | nil =>
                exfalso
                have h1 := HK.out.inv.none hs
                have h2 := HNLz.out
                have h3 := HNT.out
                omega
              | cons t r =>
                cases hlf : t.left with
                | cons c lf =>
                  have hcw := HK.out.inv.write HRI.out.nodup hs hlf
                  obtain ⟨hcz, hgc, hlp, hinv⟩ := hcw
                  have HINV := Lib.hid hinv
                  have HCZ := Lib.hid hcz
                  have HLP := Lib.hid hlp
                  have HDD := Lib.hid (show didC s = (0, s.forget c.1) by unfold didC; rw [hs]; simp only [hlf])
                  obtain ⟨X, hX⟩ : ∃ X, dataC (getC s0.all c.1) = X := ⟨_, rfl⟩
                  have HX := Lib.hid hX
                  have HNX := Lib.hid (show nextC s ps pst nx = ⟨1, c.1, X, 0, 0, 0⟩ by rw [← hX, ← hgc]; unfold nextC; rw [hs]; simp only [hlf])
                  have hXl : X.length = 256 := by have := HNL0.out; rw [HNX.out] at this; exact this
                  have HXl := Lib.hid hXl
                  have HY := Lib.hid (show w6.heap[S]? = some (.cells (scell ⟨1, c.1, X, 0, 0, 0⟩).toArray 57) by rw [HY6.out, ← HYe.out, HNX.out])
                  have k0 : w6.cell? ⟨S, 0, none⟩ = some (.int .u8 1) := (cell_at HY.out 0).trans (snth _).1
                  have HK1 := Lib.hid (show w6.cell? ⟨S, 1, none⟩ = some (.int .i64 c.1) from (cell_at HY.out 1).trans (snth _).2)
                  have HRX := Lib.hid (srange HY.out)
                  have HSL6 := Lib.hid (Array.getElem?_eq_some_iff.1 HY.out).1
                  have HEQ := Lib.hid (show ∀ w, (binOp .eql 33 (.agg (bc X).toArray) (.agg (bc X).toArray)).run Try.prog w = .ok (.bool true) w from fun w => by rw [eqlBlk X X hXl hXl, decide_eq_true rfl])
                  clear hcz hgc hlp hinv hX hXl HY HY6 HYe HNX HNL0
                  go_wp2_with fail
                  go_loopw [21, 22] (fun t21 t22 ws => ∃ j : Nat, j ≤ k ∧ t22 = .int .i64 (j : Int) ∧ t21 = .bool (decide (c.1 ∈ zs.take j)) ∧ Hid (Grow w6 ws)) (fun _ t22 _ => k - (intOf t22).toNat)
                  case atStart => exact ⟨0, by omega, by go_num, by simp, Lib.hid (Grow.refl _)⟩
                  case round =>
                    rename World => ws
                    obtain ⟨j, hjn, rfl, rfl, HJ⟩ := hrel
                    by_cases hj : j < k
                    · obtain ⟨z, hx⟩ : ∃ z, zs[j]? = some z := ⟨zs[j]'(by rw [← HNLz.out]; exact hj), by simp⟩
                      obtain ⟨gl, ol, rfl, hgl, hcl, hzi⟩ := (HZ6.out.grow HJ.out).at_ hx
                      obtain ⟨an, cn, hvn, hat⟩ := Row.see (Row.kept (S := []) HN6.out (Touch.of_below HJ.out) (by simp))
                      simp only [Value.slice.injEq] at hvn
                      obtain ⟨rfl, _, rfl⟩ := hvn
                      obtain ⟨gn, qn, rfl, hgn, hrn⟩ := hat j _ (nwC_at hx)
                      have HTN := Lib.hid (take_mem hx c.1)
                      have HLC := Lib.hid (And.intro hgl hcl)
                      have HSB := Lib.hid (show S < ws.heap.size ∧ ws.cell? ⟨S, 1, none⟩ = some (.int .i64 c.1) from ⟨Nat.lt_of_lt_of_le HSL6.out HJ.out.size, (Below.cell HJ.out (p := ⟨S, 1, none⟩) HSL6.out).trans HK1.out⟩)
                      have HSX := Lib.hid (range_touch HRX.out (Touch.of_below (S := []) HJ.out) HSL6.out (by simp))
                      have HGN := Lib.hid hgn
                      have HRN := Lib.hid hrn
                      obtain ⟨f, hf⟩ : ∃ f, decide (c.1 ∈ zs.take j) = f := ⟨_, rfl⟩
                      rw [hf]
                      clear hat hgl hcl hzi hgn hrn hx k0
                      cases f with
                      | true =>
                        go_upto_region 23 with fail
                        refine drains_reg23a gl ol gn qn k cl c9 S j ws _ _ _ _ _ _ _ _ _ _ _ _ _ _ _ _ _ _ _ _ _ _ _ _ _ _ _ _ _ _ _ _ _ _ _ _ _ _ _ _ _ _ _ _ _ _ _ _ _ _ _ _ _ _ _ _ _ _ _ _ _ _ _ _ _ _ _ _ _ _ _ _ _ _ _ _ _ _ _ _ _ _ _ _ _ _ _ _ _ _ _ _ _ _ _ _ _ _ _ _ _ _ _ _ _ _ _ _ _ _ _ _ _ _ _ _ _ _ _ _ _ _ _ _ _ _ _ _ _ _ _ _ _ _ _ _ _ _ _ _ _ _ _ _ _ _ _ _ _ _ _ _ _ _ _ _ _ _ _ _ _ _ _ _ _ _ _ _ _ _ _ _ _ _ _ _ _ _ _ _ _ _ _ _ _ _ _ _ _ _ _ _ _ _ _ _ _ (Lib.hid ?hdrainsreg23a1)
                        intro u79 u80 u81 u82 u83 u84 u85 u86 u87 u88 u89 u90 u91 u92 u93 u94 u95 u96 wz hRwz
                        have HGz := Lib.hid (HJ.out.trans (hRwz.below (Nat.le_refl _) (by simp)))
                        clear hRwz
                        go_wp2_with fail
                        go_roundw
                        case rel => exact ⟨j + 1, by omega, by go_num, by rw [HTN.out, hf]; first | rfl | simp, HGz⟩
                        case measure => simp [intOf]; omega
                      | false =>
                        by_cases hzc : z = c.1
                        · subst hzc
                          rw [HX.out] at HRN
                          have d0 : (c.1 == c.1) = true := by simp
                          go_upto_region 23 with fail
                          refine drains_reg23c gl ol gn qn k cl c9 S j c.1 c.1 X X true ws (Lib.hid hj) HLC HSB (Lib.hid d0) HSX HGN HRN (HSL X HXl.out) (HSL X HXl.out) HEQ _ _ _ _ _ _ _ _ _ _ _ _ _ _ _ _ _ _ _ _ _ _ _ _ _ _ _ _ _ _ _ _ _ _ _ _ _ _ _ _ _ _ _ _ _ _ _ _ _ _ _ _ _ _ _ _ _ _ _ _ _ _ _ _ _ _ _ _ _ _ _ _ _ _ _ _ _ _ _ _ _ _ _ _ _ _ _ _ _ _ _ _ _ _ _ _ _ _ _ _ _ _ _ _ _ _ _ _ _ _ _ _ _ _ _ _ _ _ _ _ _ _ _ _ _ _ _ _ _ _ _ _ _ _ _ _ _ _ _ _ _ _ _ _ _ _ _ _ _ _ _ _ _ _ _ _ _ _ _ _ _ _ _ _ _ _ _ _ _ _ _ _ _ _ _ _ _ _ _ _ _ _ _ _ _ _ _ _ _ _ _ _ _ _ _ _ _ (Lib.hid ?hdrainsreg23c2)
                          intro u79 u80 u81 u82 u83 u84 u85 u86 u87 u88 u89 u90 u91 u92 u93 u94 u95 u96 wz hRwz
                          have HGz := Lib.hid (HJ.out.trans (hRwz.below (Nat.le_refl _) (by simp)))
                          clear hRwz
                          go_wp2_with fail
                          go_roundw
                          case rel => exact ⟨j + 1, by omega, by go_num, by rw [HTN.out, hf]; first | rfl | simp, HGz⟩
                          case measure => simp [intOf]; omega
                        · have d0 : (z == c.1) = false := by simpa using hzc
                          have hd0 : decide (z = c.1) = false := decide_eq_false hzc
                          go_upto_region 23 with fail
                          refine drains_reg23b gl ol gn qn k cl c9 S j z c.1 ws (Lib.hid hj) HLC HSB (Lib.hid d0) _ _ _ _ _ _ _ _ _ _ _ _ _ _ _ _ _ _ _ _ _ _ _ _ _ _ _ _ _ _ _ _ _ _ _ _ _ _ _ _ _ _ _ _ _ _ _ _ _ _ _ _ _ _ _ _ _ _ _ _ _ _ _ _ _ _ _ _ _ _ _ _ _ _ _ _ _ _ _ _ _ _ _ _ _ _ _ _ _ _ _ _ _ _ _ _ _ _ _ _ _ _ _ _ _ _ _ _ _ _ _ _ _ _ _ _ _ _ _ _ _ _ _ _ _ _ _ _ _ _ _ _ _ _ _ _ _ _ _ _ _ _ _ _ _ _ _ _ _ _ _ _ _ _ _ _ _ _ _ _ _ _ _ _ _ _ _ _ _ _ _ _ _ _ _ _ _ _ _ _ _ _ _ _ _ _ _ _ _ _ _ _ _ _ _ _ _ (Lib.hid ?hdrainsreg23b3)
                          intro u79 u80 u81 u82 u83 u84 u85 u86 u87 u88 u89 u90 u91 u92 u93 u94 u95 u96 wz hRwz
                          have HGz := Lib.hid (HJ.out.trans (hRwz.below (Nat.le_refl _) (by simp)))
                          clear hRwz
                          go_wp2_with fail
                          go_roundw
                          case rel => exact ⟨j + 1, by omega, by go_num, by rw [HTN.out, hf, hd0]; first | rfl | simp, HGz⟩
                          case measure => simp [intOf]; omega
                    · obtain rfl : j = k := by omega
                      have hf : decide (c.1 ∈ zs.take j) = true := decide_eq_true (by rw [HNLz.out, List.take_length]; exact HCZ.out)
                      rw [hf]
                      clear k0
                      have HL7 := Lib.hid (HL6.out.grow HJ.out)
                      have HFL := Lib.hid (left_filter HK.out.inv HRI.out)
                      have HSB := Lib.hid (show S < ws.heap.size ∧ ws.cell? ⟨S, 1, none⟩ = some (.int .i64 c.1) from ⟨Nat.lt_of_lt_of_le HSL6.out HJ.out.size, (Below.cell HJ.out (p := ⟨S, 1, none⟩) HSL6.out).trans HK1.out⟩)
                      go_upto_region 24 with fail
                      refine drains_reg24 B S c.1 (zs.filter (leftP s.all)) ws HSB (Lib.hid fun w hg => (left_ok (HL7.out.grow hg)).mono fun e w' h => by
                          obtain ⟨v15, zs15, he, hs15, hr15, _, hg15, _⟩ := h
                          exact ⟨v15, he, by rw [Rising.unique HFL.out hr15]; exact hs15, hg15⟩) (Lib.hid fun w v h => (has_ok h (Nat.le_trans (List.length_filter_le _ _) (by have := HNLz.out; omega)) c.1).mono fun e w' ⟨he, hw⟩ => ⟨by rw [he, decide_eq_true (List.mem_filter.2 ⟨HCZ.out, HLP.out⟩)], hw⟩) _ _ _ _ _ _ _ _ _ _ _ _ _ _ _ _ _ _ _ _ _ _ _ _ _ _ _ _ _ _ _ _ _ _ _ _ _ _ _ _ _ _ _ _ _ _ _ _ _ _ _ _ _ _ _ _ _ _ _ _ _ _ _ _ _ _ _ _ _ _ _ _ _ _ _ _ _ _ _ _ _ _ _ _ _ _ _ _ _ _ _ _ _ _ _ _ _ _ _ _ _ _ _ _ _ _ _ _ _ _ _ _ _ _ _ _ _ _ _ _ _ _ _ _ _ _ _ _ _ _ _ _ _ _ _ _ _ _ _ _ _ _ _ _ _ _ _ _ _ _ _ _ _ _ _ _ _ _ _ _ _ _ _ _ _ _ _ _ _ _ _ _ _ _ _ _ _ _ _ _ _ _ _ _ _ _ _ _ _ _ _ _ _ _ _ _ _ _ _ (Lib.hid ?hdrainsreg244)
                      intro u98 u99 u100 u101 u102 u103 u104 u105 u106 wz hRwz
                      have HTd := Lib.hid (show Touch T w4 wz from (HT6.out.trans (Touch.of_below (S := []) HJ.out) (by simp)).trans hRwz (by simp))
                      have HLd := Lib.hid (HL7.out.kept hRwz (by simp))
                      have c0 : wz.cell? ⟨HB, 0, none⟩ = some (.int .u32 (ps : Int)) := (Touch.cell HTd.out (a := ⟨HB, 0, none⟩) HHL4.out HHT.out).trans (cell_at HH4.out 0)
                      have c1 : wz.cell? ⟨HB, 1, none⟩ = some (.int .i64 pst) := (Touch.cell HTd.out (a := ⟨HB, 1, none⟩) HHL4.out HHT.out).trans (cell_at HH4.out 1)
                      clear hRwz
                      go_wp2_with fail
                      refine (did_ok HLd.out ps nx pst).mono ?_
                      intro e w9 hp
                      rw [HDD.out] at hp
                      obtain ⟨rfl, hls9, ht9⟩ := hp
                      have HT9 := Lib.hid (HTd.out.trans ht9 (fun i hi => .inl hi))
                      have HK9 := Lib.hid (show DrInv g s0 zs tk B T w4 (s.forget c.1) (Wc + 1) Hc w9 from ⟨HINV.out, hls9, HT9.out⟩)
                      clear hls9 ht9
                      go_wp2_with fail
                      go_roundw
                      case rel => exact ⟨m', (Wc + 1), Hc, (s.forget c.1), by go_num, by go_num, by first | go_num | rw [hwm], by omega, HK9⟩
                      case measure => simp [intOf]
                | nil =>
                  obtain ⟨x, hx, hhd, hrd, hinv⟩ := HK.out.inv.head hs hlf
                  have hHlt := (List.getElem?_eq_some_iff.1 hx).1
                  obtain ⟨hq, hst, hnx, hcase⟩ := next_heads ps nx pst hs hlf hrd hHlt
                  obtain ⟨Hn, hHn⟩ : ∃ Hn, Hn = Hc + 1 := ⟨_, rfl⟩
                  rw [← hHn] at hinv hcase
                  have HHN := Lib.hid hHn
                  rw [← HNT.out] at hHlt
                  have HINV := Lib.hid hinv
                  have HDD := Lib.hid (show didC s = (0, { s with all := r }) by unfold didC; rw [hs]; simp only [hlf])
                  have hct : t.count = x.count := congrArg (fun p => p.2.2) hhd
                  have HY := Lib.hid (show w6.heap[S]? = some (.cells (scell ⟨2, 0, zeroB, hq, hst, x.count⟩).toArray 57) by rw [HY6.out, ← HYe.out, hnx, hct])
                  have k0 : w6.cell? ⟨S, 0, none⟩ = some (.int .u8 2) := (cell_at HY.out 0).trans (snth _).1
                  have hs2 := snth2 (s := ⟨2, 0, zeroB, hq, hst, x.count⟩) zeroB_ok
                  have HK5 := Lib.hid (show w6.cell? ⟨S, 258, none⟩ = some (.int .u32 (hq : Int)) from (cell_at HY.out 258).trans hs2.1)
                  have HK6 := Lib.hid (show w6.cell? ⟨S, 259, none⟩ = some (.int .i64 hst) from (cell_at HY.out 259).trans hs2.2.1)
                  have HK7 := Lib.hid (show w6.cell? ⟨S, 260, none⟩ = some (.int .i64 x.count) from (cell_at HY.out 260).trans hs2.2.2)
                  have HK0 := Lib.hid k0
                  have HSL6 := Lib.hid (Array.getElem?_eq_some_iff.1 HY.out).1
                  obtain ⟨at_, ct, hvt, hat⟩ := Row.see HA6.out
                  rw [List.length_map, ← HNT.out] at hvt
                  simp only [Value.slice.injEq, true_and] at hvt
                  obtain ⟨rfl, rfl⟩ := hvt
                  obtain ⟨gt, ot, rfl, hgt, hrt⟩ := hat Hc (acell x) (by rw [List.getElem?_map, hx]; rfl)
                  have HAT := Lib.hid hat
                  have hac : acell x = [.bool x.did, .int .u32 (x.seq : Int), x.vc, x.vr, .int .i64 x.start, .int .i64 x.count] := rfl
                  have HT5c := Lib.hid (show gt < w6.heap.size ∧ w6.cell? ⟨gt, ot + Hc * 6 + 5, none⟩ = some (.int .i64 x.count) from ⟨hgt, hrt 5 _ rfl⟩)
                  have HCASE := Lib.hid hcase
                  clear hinv hhd hrd hnx hct hs2 hat hgt hrt hac hcase HY HY6 HYe HNL0 hx
                  go_upto_region 27 with fail
                  refine drains_reg27 gt ot nt cv S Hc x.count w6 (Lib.hid hHlt) (Lib.hid ⟨HSL6.out, HK0.out⟩) (Lib.hid ⟨HSL6.out, HK7.out⟩) HT5c _ _ _ _ _ _ _ _ _ _ _ _ _ _ _ _ _ _ _ _ _ _ _ _ _ _ _ _ _ _ _ _ _ _ _ _ _ _ _ _ _ _ _ _ _ _ _ _ _ _ _ _ _ _ _ _ _ _ _ _ _ _ _ _ _ _ _ _ _ _ _ _ _ _ _ _ _ _ _ _ _ _ _ _ _ _ _ _ _ _ _ _ _ _ _ _ _ _ _ _ _ _ _ _ _ _ _ _ _ _ _ _ _ _ _ _ _ _ _ _ _ _ _ _ _ _ _ _ _ _ _ _ _ _ _ _ _ _ _ _ _ _ _ _ _ _ _ _ _ _ _ _ _ _ _ _ _ _ _ _ _ _ _ _ _ _ _ _ _ _ _ _ _ _ _ _ _ _ _ _ _ _ _ _ _ _ _ _ _ _ _ _ _ _ _ _ _ _ _ (Lib.hid ?hdrainsreg276)
                  intro u110 u111 u112 u113 u114 u115 u116 u117 u118 u119 u120 u121 u122 u123 u124 u125 u126 u127 w7 hRw7

                  have HG67 := Lib.hid (show Grow w6 w7 from hRw7.below (Nat.le_refl _) (by simp))
                  clear hRw7
                  go_upto_region 31 with fail
                  have HWc := Lib.hid (heap_alloc_last w7 (.cells #[.int .u32 (nx : Int), .int .i64 0] 53))
                  have HG68 := Lib.hid (show Grow w6 (w7.alloc (.cells #[.int .u32 (nx : Int), .int .i64 0] 53)) from HG67.out.trans (Grow.alloc _ _))
                  have HSW := Lib.hid (show w6.heap.size ≤ w7.heap.size from HG67.out.size)
                  generalize w7.alloc (.cells #[.int .u32 (nx : Int), .int .i64 0] 53) = w8 at *
                  obtain ⟨HW, hHW⟩ : ∃ HW, HW = w7.heap.size := ⟨_, rfl⟩
                  rw [← hHW] at HWc HSW ⊢
                  have HSn := Lib.hid (show S ∉ [HW] from fun hm => by have := HSL6.out; have := HSW.out; rw [List.mem_singleton] at hm; omega)
                  have HSn2 := Lib.hid (show ∀ i ∈ [HW], w6.heap.size ≤ i from fun i hi => by rw [List.mem_singleton.1 hi]; exact HSW.out)
                  have HT8 := Lib.hid (show Touch [HW] w6 w8 from Touch.of_below HG68.out)
                  have HEH := Lib.hid (show ∀ w, (binOp .neq 53 (.agg #[.int .u32 (hq : Int), .int .i64 hst]) (.agg #[.int .u32 (hq : Int), .int .i64 hst])).run Try.prog w = .ok (.bool false) w from fun w => by rw [neqH]; simp)
                  have he1 : ((Hc : Int) + 1) = (Hn : Int) := by omega
                  rw [he1]
                  clear he1 hHn hHW HG67 k0 HK0 HK7 HT5c
                  rcases HCASE.out with ⟨y, hy, hyq, hys⟩ | ⟨hlen, hp0, hyq, hys⟩ | ⟨hlen, hp0, hyq, hys⟩
                  · have hlt : Hn < nt := by rw [HNT.out]; exact (List.getElem?_eq_some_iff.1 hy).1
                    obtain ⟨g2, o2, he2, hg2, hr2⟩ := HAT.out Hn (acell y) (by rw [List.getElem?_map, hy]; rfl)
                    cases he2
                    have HT1 := Lib.hid (show gt < w8.heap.size ∧ w8.cell? ⟨gt, ot + Hn * 6 + 1, none⟩ = some (.int .u32 (hq : Int)) from ⟨Nat.lt_of_lt_of_le hg2 HG68.out.size, (Below.cell HG68.out (p := ⟨gt, ot + Hn * 6 + 1, none⟩) hg2).trans ((hr2 1 _ rfl).trans (by rw [hyq]))⟩)
                    have HT4' := Lib.hid (show gt < w8.heap.size ∧ w8.cell? ⟨gt, ot + Hn * 6 + 4, none⟩ = some (.int .i64 hst) from ⟨Nat.lt_of_lt_of_le hg2 HG68.out.size, (Below.cell HG68.out (p := ⟨gt, ot + Hn * 6 + 4, none⟩) hg2).trans ((hr2 4 _ rfl).trans (by rw [hys]))⟩)
                    have b3 : (Hn : Int) < (nt : Int) := by omega
                    clear hg2 hr2 hy hyq hys
                    go_upto_region 32 with fail
                    refine drains_reg32 gt ot nt cv HW Hn hq nx hst 0 w8 (Lib.hid hlt) HT1 HT4' HWc _ _ _ _ _ _ _ _ _ _ _ _ _ _ _ _ _ _ _ _ _ _ _ _ _ _ _ _ _ _ _ _ _ _ _ _ _ _ _ _ _ _ _ _ _ _ _ _ _ _ _ _ _ _ _ _ _ _ _ _ _ _ _ _ _ _ _ _ _ _ _ _ _ _ _ _ _ _ _ _ _ _ _ _ _ _ _ _ _ _ _ _ _ _ _ _ _ _ _ _ _ _ _ _ _ _ _ _ _ _ _ _ _ _ _ _ _ _ _ _ _ _ _ _ _ _ _ _ _ _ _ _ _ _ _ _ _ _ _ _ _ _ _ _ _ _ _ _ _ _ _ _ _ _ _ _ _ _ _ _ _ _ _ _ _ _ _ _ _ _ _ _ _ _ _ _ _ _ _ _ _ _ _ _ _ _ _ _ _ _ _ _ _ _ _ _ _ _ _ (Lib.hid ?hdrainsreg325)
                    intro u137 u138 u139 u140 u141 u142 u143 u144 u145 u146 u147 u148 w9 hw9 ht9
                    have HTS := Lib.hid (HT8.out.trans ht9 (fun i hi => .inl hi))
                    clear ht9
                    have k5 : w9.cell? ⟨S, 258, none⟩ = some (.int .u32 (hq : Int)) := (Touch.cell HTS.out (a := ⟨S, 258, none⟩) HSL6.out HSn.out).trans HK5.out
                    have k6 : w9.cell? ⟨S, 259, none⟩ = some (.int .i64 hst) := (Touch.cell HTS.out (a := ⟨S, 259, none⟩) HSL6.out HSn.out).trans HK6.out
                    have HTd := Lib.hid (show Touch T w4 w9 from HT6.out.trans HTS.out (by intro i hi; exact .inr (Nat.le_trans HT6.out.size (HSn2.out i hi))))
                    have HLd := Lib.hid (HL6.out.kept HTS.out (fun q hq hm => by have := HTB.out q hq; have := HSn2.out q hm; omega))
                    have c0 : w9.cell? ⟨HB, 0, none⟩ = some (.int .u32 (ps : Int)) := (Touch.cell HTd.out (a := ⟨HB, 0, none⟩) HHL4.out HHT.out).trans (cell_at HH4.out 0)
                    have c1 : w9.cell? ⟨HB, 1, none⟩ = some (.int .i64 pst) := (Touch.cell HTd.out (a := ⟨HB, 1, none⟩) HHL4.out HHT.out).trans (cell_at HH4.out 1)
                    have h0 : w9.cell? ⟨HW, 0, none⟩ = some (.int .u32 (hq : Int)) := cell_at hw9 0
                    have h1 : w9.cell? ⟨HW, 1, none⟩ = some (.int .i64 hst) := cell_at hw9 1
                    clear hw9
                    go_upto_region 37 with (refine wpList_eqG .neq 53 _ _ _ rfl #[.int .u32 (hq : Int), .int .i64 hst] #[.int .u32 (hq : Int), .int .i64 hst] rfl rfl (fun _ _ => gH _ _ _ _ _ _) (HEH.out _) (by rfl) ?_)
                    clear h0 h1 k5 k6
                    go_wp2_with fail
                    refine (did_ok HLd.out ps nx pst).mono ?_
                    intro e w9 hp
                    rw [HDD.out] at hp
                    obtain ⟨rfl, hls9, ht9⟩ := hp
                    have HT9 := Lib.hid (HTd.out.trans ht9 (fun i hi => .inl hi))
                    have HK9 := Lib.hid (show DrInv g s0 zs tk B T w4 { s with all := r } Wc Hn w9 from ⟨HINV.out, hls9, HT9.out⟩)
                    clear hls9 ht9
                    go_wp2_with fail
                    go_roundw
                    case rel => exact ⟨m', Wc, Hn, { s with all := r }, by go_num, by go_num, by first | go_num | rw [hwm], by have := HHN.out; omega, HK9⟩
                    case measure => simp [intOf]
                  · have b3 : ¬ ((Hn : Int) < (nt : Int)) := by have := HNT.out; omega
                    have HYQ := Lib.hid hyq
                    have HYS := Lib.hid hys
                    clear hyq hys hlen
                    have c0 : w8.cell? ⟨HB, 0, none⟩ = some (.int .u32 (ps : Int)) := (Touch.cell (HT6.out.trans HT8.out (by intro i hi; exact .inr (Nat.le_trans HT6.out.size (HSn2.out i hi)))) (a := ⟨HB, 0, none⟩) HHL4.out HHT.out).trans (cell_at HH4.out 0)
                    have c1 : w8.cell? ⟨HB, 1, none⟩ = some (.int .i64 pst) := (Touch.cell (HT6.out.trans HT8.out (by intro i hi; exact .inr (Nat.le_trans HT6.out.size (HSn2.out i hi)))) (a := ⟨HB, 1, none⟩) HHL4.out HHT.out).trans (cell_at HH4.out 1)
                    have k0 : w8.cell? ⟨HW, 0, none⟩ = some (.int .u32 (nx : Int)) := cell_at HWc.out 0
                    have k1 : w8.cell? ⟨HW, 1, none⟩ = some (.int .i64 0) := cell_at HWc.out 1
                    have q0 := frozen_at HWc.out 0
                    have q1 := frozen_at HWc.out 1
                    have hw9 := heap_set (heap_set HWc.out 0 (.int .u32 (ps : Int))) 1 (.int .i64 pst)
                    have HTS := Lib.hid (HT8.out.trans ((Touch.setCell (S := [HW]) w8 (a := ⟨HW, 0, none⟩) (by simp) (.int .u32 (ps : Int))).trans (Touch.setCell (S := [HW]) _ (a := ⟨HW, 1, none⟩) (by simp) (.int .i64 pst)) (fun i hi => .inl hi)) (fun i hi => .inl hi))
                    go_upto_region 35 with fail
                    generalize (w8.setCell ⟨HW, 0, none⟩ (.int .u32 (ps : Int))).setCell ⟨HW, 1, none⟩ (.int .i64 pst) = w9 at *
                    rw [HYQ.out, HYS.out] at hw9
                    clear c0 c1 k0 k1 q0 q1
                    have k5 : w9.cell? ⟨S, 258, none⟩ = some (.int .u32 (hq : Int)) := (Touch.cell HTS.out (a := ⟨S, 258, none⟩) HSL6.out HSn.out).trans HK5.out
                    have k6 : w9.cell? ⟨S, 259, none⟩ = some (.int .i64 hst) := (Touch.cell HTS.out (a := ⟨S, 259, none⟩) HSL6.out HSn.out).trans HK6.out
                    have HTd := Lib.hid (show Touch T w4 w9 from HT6.out.trans HTS.out (by intro i hi; exact .inr (Nat.le_trans HT6.out.size (HSn2.out i hi))))
                    have HLd := Lib.hid (HL6.out.kept HTS.out (fun q hq hm => by have := HTB.out q hq; have := HSn2.out q hm; omega))
                    have c0 : w9.cell? ⟨HB, 0, none⟩ = some (.int .u32 (ps : Int)) := (Touch.cell HTd.out (a := ⟨HB, 0, none⟩) HHL4.out HHT.out).trans (cell_at HH4.out 0)
                    have c1 : w9.cell? ⟨HB, 1, none⟩ = some (.int .i64 pst) := (Touch.cell HTd.out (a := ⟨HB, 1, none⟩) HHL4.out HHT.out).trans (cell_at HH4.out 1)
                    have h0 : w9.cell? ⟨HW, 0, none⟩ = some (.int .u32 (hq : Int)) := cell_at hw9 0
                    have h1 : w9.cell? ⟨HW, 1, none⟩ = some (.int .i64 hst) := cell_at hw9 1
                    clear hw9
                    go_upto_region 37 with (refine wpList_eqG .neq 53 _ _ _ rfl #[.int .u32 (hq : Int), .int .i64 hst] #[.int .u32 (hq : Int), .int .i64 hst] rfl rfl (fun _ _ => gH _ _ _ _ _ _) (HEH.out _) (by rfl) ?_)
                    clear h0 h1 k5 k6
                    go_wp2_with fail
                    refine (did_ok HLd.out ps nx pst).mono ?_
                    intro e w9 hp
                    rw [HDD.out] at hp
                    obtain ⟨rfl, hls9, ht9⟩ := hp
                    have HT9 := Lib.hid (HTd.out.trans ht9 (fun i hi => .inl hi))
                    have HK9 := Lib.hid (show DrInv g s0 zs tk B T w4 { s with all := r } Wc Hn w9 from ⟨HINV.out, hls9, HT9.out⟩)
                    clear hls9 ht9
                    go_wp2_with fail
                    go_roundw
                    case rel => exact ⟨m', Wc, Hn, { s with all := r }, by go_num, by go_num, by first | go_num | rw [hwm], by have := HHN.out; omega, HK9⟩
                    case measure => simp [intOf]
                  · have b3 : ¬ ((Hn : Int) < (nt : Int)) := by have := HNT.out; omega
                    have HYQ := Lib.hid hyq
                    have HYS := Lib.hid hys
                    clear hyq hys hlen
                    have c1 : w8.cell? ⟨HB, 1, none⟩ = some (.int .i64 pst) := (Touch.cell (HT6.out.trans HT8.out (by intro i hi; exact .inr (Nat.le_trans HT6.out.size (HSn2.out i hi)))) (a := ⟨HB, 1, none⟩) HHL4.out HHT.out).trans (cell_at HH4.out 1)
                    have b4 : ¬ (0 < pst) := by omega
                    clear hp0
                    go_upto_region 35 with fail
                    have hw9 := HWc.out
                    have HTS := Lib.hid HT8.out
                    obtain ⟨w9, rfl⟩ : ∃ w9, w9 = w8 := ⟨_, rfl⟩
                    rw [HYQ.out, HYS.out] at hw9
                    clear c1
                    have k5 : w9.cell? ⟨S, 258, none⟩ = some (.int .u32 (hq : Int)) := (Touch.cell HTS.out (a := ⟨S, 258, none⟩) HSL6.out HSn.out).trans HK5.out
                    have k6 : w9.cell? ⟨S, 259, none⟩ = some (.int .i64 hst) := (Touch.cell HTS.out (a := ⟨S, 259, none⟩) HSL6.out HSn.out).trans HK6.out
                    have HTd := Lib.hid (show Touch T w4 w9 from HT6.out.trans HTS.out (by intro i hi; exact .inr (Nat.le_trans HT6.out.size (HSn2.out i hi))))
                    have HLd := Lib.hid (HL6.out.kept HTS.out (fun q hq hm => by have := HTB.out q hq; have := HSn2.out q hm; omega))
                    have c0 : w9.cell? ⟨HB, 0, none⟩ = some (.int .u32 (ps : Int)) := (Touch.cell HTd.out (a := ⟨HB, 0, none⟩) HHL4.out HHT.out).trans (cell_at HH4.out 0)
                    have c1 : w9.cell? ⟨HB, 1, none⟩ = some (.int .i64 pst) := (Touch.cell HTd.out (a := ⟨HB, 1, none⟩) HHL4.out HHT.out).trans (cell_at HH4.out 1)
                    have h0 : w9.cell? ⟨HW, 0, none⟩ = some (.int .u32 (hq : Int)) := cell_at hw9 0
                    have h1 : w9.cell? ⟨HW, 1, none⟩ = some (.int .i64 hst) := cell_at hw9 1
                    clear hw9
                    go_upto_region 37 with (refine wpList_eqG .neq 53 _ _ _ rfl #[.int .u32 (hq : Int), .int .i64 hst] #[.int .u32 (hq : Int), .int .i64 hst] rfl rfl (fun _ _ => gH _ _ _ _ _ _) (HEH.out _) (by rfl) ?_)
                    clear h0 h1 k5 k6
                    go_wp2_with fail
                    refine (did_ok HLd.out ps nx pst).mono ?_
                    intro e w9 hp
                    rw [HDD.out] at hp
                    obtain ⟨rfl, hls9, ht9⟩ := hp
                    have HT9 := Lib.hid (HTd.out.trans ht9 (fun i hi => .inl hi))
                    have HK9 := Lib.hid (show DrInv g s0 zs tk B T w4 { s with all := r } Wc Hn w9 from ⟨HINV.out, hls9, HT9.out⟩)
                    clear hls9 ht9
                    go_wp2_with fail
                    go_roundw
                    case rel => exact ⟨m', Wc, Hn, { s with all := r }, by go_num, by go_num, by first | go_num | rw [hwm], by have := HHN.out; omega, HK9⟩
                    case measure => simp [intOf]
            · obtain rfl : m = 0 := by omega
              have hdn := HK.out.inv.done (by have h2 := HNLz.out; have h3 := HNT.out; omega)
              obtain ⟨hW, hH, hsn⟩ := hdn
              have HSN := Lib.hid hsn
              have HLN := Lib.hid (show s.all.length = 0 by rw [hsn]; rfl)
              have HDE := Lib.hid (show didC s = (2, s) by unfold didC; rw [hsn])
              have HNE := Lib.hid (show (scell (nextC s ps pst nx)).toArray = Z57 by rw [← HZ57.out, show nextC s ps pst nx = zeroS by unfold nextC; rw [hsn]])
              have e1 : Wc = k := by rw [hW, HNLz.out]
              have e2 : Hc = nt := by rw [hH, HNT.out]
              subst e1 e2
              have d1 : ((Wc : Int) == (Wc : Int)) = true := by simp
              have d2 : ((Hc : Int) == (Hc : Int)) = true := by simp
              clear hW hH hsn hsum
              go_wp2_with fail
              refine (len_ok HL.out).mono ?_
              rintro e w' ⟨rfl, rfl⟩
              rw [HLN.out]
              go_wp2_with fail
              refine (left_ok HL.out).mono ?_
              intro e w6 hp
              unfold LeftPost at hp
              obtain ⟨v6, zs6, rfl, hz6, hr6, _, hg6, _⟩ := hp
              have hzn := left_nil HSN.out hr6
              subst hzn
              obtain ⟨a6, c6, hv6⟩ := hz6.len
              have hv6' : v6 = .slice a6 0 c6 := hv6
              subst hv6'
              have HL6 := Lib.hid (HL.out.grow hg6)
              have HT6 := Lib.hid (show Touch T w4 w6 from HTQ.out.trans (Touch.of_below (S := []) hg6) (by simp))
              clear c0 c1
              have c0 : w6.cell? ⟨HB, 0, none⟩ = some (.int .u32 (ps : Int)) := (Touch.cell HT6.out (a := ⟨HB, 0, none⟩) HHL4.out HHT.out).trans (cell_at HH4.out 0)
              have c1 : w6.cell? ⟨HB, 1, none⟩ = some (.int .i64 pst) := (Touch.cell HT6.out (a := ⟨HB, 1, none⟩) HHL4.out HHT.out).trans (cell_at HH4.out 1)
              clear hz6 hr6 hg6 hv6 HL HTQ
              go_wp2_with fail
              refine (did_ok HL6.out ps nx pst).mono ?_
              intro e w7 hp
              rw [HDE.out] at hp
              obtain ⟨rfl, ⟨va7, xs7, hls7⟩, ht7⟩ := hp
              have HL7 := Lib.hid hls7
              have HT7 := Lib.hid (HT6.out.trans ht7 (fun i hi => .inl hi))
              clear c0 c1
              have c0 : w7.cell? ⟨HB, 0, none⟩ = some (.int .u32 (ps : Int)) := (Touch.cell HT7.out (a := ⟨HB, 0, none⟩) HHL4.out HHT.out).trans (cell_at HH4.out 0)
              have c1 : w7.cell? ⟨HB, 1, none⟩ = some (.int .i64 pst) := (Touch.cell HT7.out (a := ⟨HB, 1, none⟩) HHL4.out HHT.out).trans (cell_at HH4.out 1)
              clear hls7 ht7 HL6 HT6
              go_wp2_with fail
              refine (next_ok HL7.out ps nx pst).mono ?_
              intro e w8 hp
              rw [HNE.out] at hp
              obtain ⟨rfl, hg8⟩ := hp
              have hz570 : ∀ w, (Instr.field 57 (.agg Z57) 0).run Try.prog w = .ok (.int .u8 0) w := run_kind (by rw [← HZ57.out]; exact (snth zeroS).1)
              have HG8 := Lib.hid (show Grow W w8 from Grow.trans (Below.trans HGW4.out (HT7.out.below HGW4.out.size HTW.out)) hg8)
              clear c0 c1 hg8
              go_wp2_with fail
              refine (awake_ok _).mono ?_
              intro e w9 hp
              obtain ⟨rfl, hg9⟩ := hp
              have HG9 := Lib.hid (HG8.out.trans hg9)
              clear hg9
              go_wp2_with fail
              go_ret
              exact ⟨rfl, HG9.out⟩
#print axioms drains_walk
end Go.Proofs.Ytokehhegomiciaa
