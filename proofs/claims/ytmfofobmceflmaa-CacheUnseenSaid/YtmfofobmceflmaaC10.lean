/- The laws' ran: the walk. -/
import Derived.Test.YtmfofobmceflmaaC9
set_option linter.unusedVariables false
set_option linter.unusedSimpArgs false
namespace Go.Proofs.Ytmfofobmceflmaa
open Go.RowKit Go.Maps

theorem Row.storeB {w : World} {g n cap : Nat} {l : List Blk} (h : Row w 32 256 (.slice (some ⟨g, 0, none⟩) n cap) (l.map bc)) {i : Nat} {x : Blk} (hx : x.length = 256) (hi : i < l.length) :
    Row (w.setCells g (i * 256) (bc x)) 32 256 (.slice (some ⟨g, 0, none⟩) n cap) ((l.set i x).map bc) := by
  have := h.store (i := i) (c := bc x) (by rw [bc_length]; exact hx) (by rw [List.length_map]; exact hi)
  rw [List.map_set]
  exact this
structure DP where
  k : Int
  b : Int
  f : Nat
def DoAt (w : World) (x : Addr) (p : DP) : Prop := w.cell? x = some (.int .u8 p.k) ∧ w.cell? (x.add 1) = some (.int .i64 p.b) ∧ w.cell? (x.add 2) = some (.int .u32 (p.f : Int)) ∧ (0 ≤ p.k ∧ p.k < 256) ∧ IntOk p.b ∧ p.f < 4294967296
def DosIn (w : World) (v : Value) (l : List DP) : Prop := ∃ a cap, v = .slice a l.length cap ∧ ∀ i p, l[i]? = some p → ∃ y : Addr, a = some y ∧ y.block < w.heap.size ∧ DoAt w (y.add (i * 3)) p
theorem DosIn.len {w : World} {v : Value} {l : List DP} (h : DosIn w v l) : ∃ a cap, v = .slice a l.length cap := by
  obtain ⟨a, cap, rfl, _⟩ := h
  exact ⟨a, cap, rfl⟩
/-- what stands ahead of each round, and behind ran -/
structure RState (N i : Nat) (w : World) (C B gm : Nat) (U : List Nat) (s : CS) (m : List Blk) (wr : World) : Prop where
  cache : IsCache wr C B U i s
  good : CGood N i s
  tells : Tells N m s
  nopin : s.p = fun _ => false
  row : Row wr 32 256 (.slice (some ⟨gm, 0, none⟩) N N) (m.map bc)
  out : gm ∉ U
  lo : ∀ j ∈ U, w.heap.size ≤ j
  low : w.heap.size ≤ gm
  grow : Grow w wr
theorem RState.lens {N i : Nat} {w : World} {C B gm : Nat} {U : List Nat} {s : CS} {m : List Blk} {wr : World} (h : RState N i w C B gm U s m wr) : s.d.last.length = N := by
  have := h.cache.facts.2.2.1
  rw [this]; exact h.good.safe
theorem RState.step {N i : Nat} {w : World} {C B gm : Nat} {U : List Nat} {s s' : CS} {m : List Blk} {wr w' : World} (h : RState N i w C B gm U s m wr) (hs : Stands C B U (i + 1) s' wr w') (hg : CGood N (i + 1) s') (ht : Tells N m s') (hp : s'.p = s.p) : ∃ U', RState N (i + 1) w C B gm U' s' m w' := by
  obtain ⟨U', h1, h2, h3⟩ := hs
  have hgl : gm < wr.heap.size := h.row.lt rfl
  refine ⟨U', h1, hg, ht, hp.trans h.nopin, h.row.kept h2 (fun g e => by cases e; exact h.out), fun hm => ?_, fun j hj => ?_, h.low, Below.trans h.grow (h2.below h.grow.size h.lo)⟩
  · rcases h3 gm hm with h4 | h4
    · exact h.out h4
    · omega
  · rcases h3 j hj with h4 | h4
    · exact h.lo j h4
    · exact Nat.le_trans h.grow.size h4
theorem RState.later {N i : Nat} {w : World} {C B gm : Nat} {U : List Nat} {s : CS} {m : List Blk} {wr w' : World} (h : RState N i w C B gm U s m wr) (hg : Grow wr w') : RState N i w C B gm U s m w' :=
  { h with cache := h.cache.grow hg, row := h.row.kept (Touch.of_below (S := []) hg) (by simp), grow := h.grow.trans hg }
theorem RState.stored {N i c : Nat} {w : World} {C B gm : Nat} {U : List Nat} {s s' : CS} {m : List Blk} {wr : World} {x : Blk} (h : RState N i w C B gm U s' m wr) (hc : c < N) (hx : x.length = 256) (ht : Tells N (m.set c x) s') : RState N i w C B gm U s' (m.set c x) (wr.setCells gm (c * 256) (bc x)) := by
  have htc : Touch [gm] wr (wr.setCells gm (c * 256) (bc x)) := touch_setCells (by simp) _ _ _
  exact { h with
    cache := h.cache.kept htc (fun k hk hm => h.out (List.mem_singleton.1 hm ▸ hk))
    tells := ht
    row := h.row.storeB hx (by rw [h.tells.len]; exact hc)
    grow := Below.trans h.grow (htc.below h.grow.size (fun j hj => by rw [List.mem_singleton.1 hj]; exact h.low)) }
theorem CGood.put {N k : Nat} {s : CS} (h : CGood N k s) (f : Int → Option Hd) : CGood N (k + 1) { s with f := f } := (h.same (s' := { s with f := f }) rfl).more (Nat.le_succ k)
/-- a read, whatever the cache has: it tells m -/
def ReadPost (C B : Nat) (U : List Nat) (n N : Nat) (m : List Blk) (s : CS) (x : Blk) (w : World) (e : Ending) (w' : World) : Prop :=
  e = .returned (.tuple #[.agg (bc x).toArray, .int .i64 0]) ∧ ∃ s', Stands C B U (n + 1) s' w w' ∧ s'.d = s.d ∧ s'.p = s.p ∧ Tells N m s' ∧ ∀ i, isDirty s'.f i = isDirty s.f i
theorem cread_any {w : World} {C B : Nat} {U : List Nat} {n N k : Nat} {m : List Blk} {s : CS} (h : IsCache w C B U n s) (hn : n ≤ 1000000) (hg : CGood N k s) (ht : Tells N m s) (b : Nat) (hb : b < N) {x : Blk} (hx : m[b]? = some x) :
    Calls Try.prog 18 #[.pointer (some ⟨C, 0, none⟩), .int .i64 (b : Int)] w (ReadPost C B U n N m s x w) := by
  have hb' : b < s.d.safe.length := by rw [hg.safe]; exact hb
  cases hf : s.f b with
  | some y =>
    have := ht.has b y.1 y.2 (by rw [hf])
    rw [hx] at this
    obtain rfl : x = y.1 := Option.some.inj this
    refine (cread_has h b hb' y hf).mono ?_
    rintro e w' ⟨rfl, hgr⟩
    exact ⟨rfl, s, (Stands.of_grow h hgr).mono (Nat.le_succ n), rfl, rfl, ht, fun _ => rfl⟩
  | none =>
    have hd := ht.disk b hb (by unfold isDirty; rw [hf])
    rw [hx] at hd
    refine (cread_new h hn b hb' hf hg.dead x hd).mono ?_
    rintro e w' ⟨rfl, h1, h2⟩
    refine ⟨rfl, _, Stands.of_touch h1 h2, rfl, rfl, (ht.read b hb hf hd).2, fun i => ?_⟩
    show isDirty (putF s.f b (x, false)) i = _
    rw [isDirty_put]
    by_cases e : i = (b : Int)
    · rw [if_pos e, e]; unfold isDirty; rw [hf]
    · rw [if_neg e]
theorem ran_cv (n : Int) (N : Nat) (hN : (N : Int) = 1 + n % 64) : wrap64 (1 + wrap64 ((IntKind.u64.wrap n).tmod 64)) = (N : Int) := by
  rw [IntKind.wrap_u64, Int.tmod_eq_emod_of_nonneg (by omega)]
  rw [show wrap64 (n % 18446744073709551616 % 64) = n % 64 by unfold wrap64; omega, hN]
  unfold wrap64; omega
theorem ran_at (b : Int) (N : Nat) (h1 : 1 ≤ N) (h2 : N ≤ 64) : ∃ c : Nat, c < N ∧ wrap64 ((IntKind.u64.wrap b).tmod (N : Int)) = (c : Int) := by
  rw [IntKind.wrap_u64, Int.tmod_eq_emod_of_nonneg (by omega)]
  have h3 := Int.emod_nonneg (b % 18446744073709551616) (show (N : Int) ≠ 0 by omega)
  have h4 := Int.emod_lt_of_pos (b % 18446744073709551616) (show (0 : Int) < N by omega)
  refine ⟨(b % 18446744073709551616 % N).toNat, by omega, ?_⟩
  unfold wrap64; omega
theorem results_tmp4 {fn : Func} {t u v x : Tmp} (h : fn.results = #[.tmp t, .tmp u, .tmp v, .tmp x]) (tmps : Array Value) (P : Program) (w : World) :
    (results fn tmps).run P w = .ok (.tuple #[tmps.getD t undef, tmps.getD u undef, tmps.getD v undef, tmps.getD x undef]) w := by
  simp [results, h]
def RanPost (N L : Nat) (w : World) (e : Ending) (w' : World) : Prop := ∃ C B gm U s m, e = .returned (.tuple #[.pointer (some ⟨C, 0, none⟩), .pointer (some ⟨B, 0, none⟩), .slice (some ⟨gm, 0, none⟩) N N, .bool true]) ∧ RState N L w C B gm U s m w'
set_option maxRecDepth 100000 in
set_option maxHeartbeats 8000000 in
theorem ran_ok (n : Int) (hn : IntOk n) (N : Nat) (hN : (N : Int) = 1 + n % 64) {w : World} {v : Value} {l : List DP} (hp : DosIn w v l) (hl : l.length ≤ 200) :
    Calls Try.prog 9 #[.int .i64 n, v] w (RanPost N l.length w) := by
  have h1 : 1 ≤ N := by omega
  have h2 : N ≤ 64 := by omega
  have hcv := ran_cv n N hN
  obtain ⟨ad, cap, rfl, hc⟩ := hp
  have HP := Lib.hid hc
  obtain ⟨L, hL⟩ : ∃ L, L = l.length := ⟨_, rfl⟩
  rw [← hL] at hl ⊢
  have HL := Lib.hid hL
  obtain ⟨M, hM, hmk⟩ := mk_run N (by omega)
  have HMM := Lib.hid hM
  clear hc hL hn hN hM
  go_enter Try.func9, Try.ntmps9
  go_wp2_with fail
  simp only [hcv]
  refine (new_ok N h1 (by omega) _).mono ?_
  intro e w1 hpost
  obtain ⟨B, S, he, hd, hg, hS⟩ := hpost
  subst he
  have HD := Lib.hid hd
  have HG := Lib.hid hg
  have HS := Lib.hid hS
  clear hd hg hS hcv
  go_wp2_with fail
  refine (cnew_ok HD.out).mono ?_
  intro e w2 hpost
  obtain ⟨C, U, he, hc, hg, hU⟩ := hpost
  subst he
  have HI0 := Lib.hid (show RState N 0 w C B w2.heap.size U (newC (newD N)) (List.replicate N zeroB) (w2.alloc (.cells M 32)) from
    { cache := hc.grow (Grow.alloc _ _)
      good := CGood.new N
      tells := Tells.new N
      nopin := rfl
      row := row_new (by omega) HMM.out (heap_alloc_last _ _)
      out := fun hm => by have := hc.lt _ hm; omega
      lo := fun j hj => by
        rcases hU j hj with h | h
        · exact HS.out j h
        · exact Nat.le_trans HG.out.size h
      low := Nat.le_trans HG.out.size hg.size
      grow := (HG.out.trans hg).trans (Grow.alloc _ _) })
  clear hc hg hU
  go_wp2_with fail
  generalize w2.alloc (.cells M 32) = w3 at *
  obtain ⟨gm, hgm⟩ : ∃ g, g = w2.heap.size := ⟨_, rfl⟩
  rw [← hgm] at HI0
  rw [← hgm]
  clear hgm hmk
  go_loopw [13] (fun t13 wr => ∃ i : Nat, i ≤ L ∧ t13 = .int .i64 (i : Int) ∧ ∃ U s m, Hid (RState N i w C B gm U s m wr)) (fun t13 _ => L - (intOf t13).toNat)
  case atStart => exact ⟨0, by omega, rfl, _, _, _, HI0⟩
  case round =>
    obtain ⟨i, hi, rfl, U1, s, m, HI⟩ := hrel
    by_cases hlt : i < L
    · have hil : i < l.length := by rw [← HL.out]; exact hlt
      obtain ⟨p, hpi⟩ : ∃ p, l[i]? = some p := ⟨l[i], by simp [hil]⟩
      obtain ⟨y, rfl, hyb, hc0, hc1, hc2, hq, hpb, hpf⟩ := HP.out i p hpi
      obtain ⟨q, b0, f⟩ := p
      dsimp only at hc0 hc1 hc2 hq hpb hpf
      have hgr := HI.out.grow
      have hc0' := (hgr.cell (p := y.add (i * 3)) (by rw [add_block]; exact hyb)).trans hc0
      have hc1' : wr.cell? { block := (y.add (i * 3)).block, off := (y.add (i * 3)).off + 1 } = some (.int .i64 b0) := (hgr.cell (p := (y.add (i * 3)).add 1) (by rw [add_block, add_block]; exact hyb)).trans hc1
      have hc2' : wr.cell? { block := (y.add (i * 3)).block, off := (y.add (i * 3)).off + 2 } = some (.int .u32 (f : Int)) := (hgr.cell (p := (y.add (i * 3)).add 2) (by rw [add_block, add_block]; exact hyb)).trans hc2
      have HC2 := Lib.hid hc2
      have HYB := Lib.hid hyb
      have hb0 : (0 : Int) ≤ (i : Int) := by omega
      have hb1 : (i : Int) < (L : Int) := by omega
      obtain ⟨c, hcN, hcv⟩ := ran_at b0 N h1 h2
      have HPB := Lib.hid hpb
      have eN : ((N : Int) == 0) = false := by simp; omega
      have HIN := Lib.hid (show i ≤ 1000000 by omega)
      have HIK := Lib.hid (show i ≤ 100000 by omega)
      obtain ⟨r, hr⟩ : ∃ r : Int, q.tmod 4 = r := ⟨_, rfl⟩
      have hrr : r = 0 ∨ r = 1 ∨ r = 2 ∨ r = 3 := by
        rw [Int.tmod_eq_emod_of_nonneg hq.1] at hr; omega
      clear hgr hpi hil hc0 hc1 hc2 hyb hq hpb
      rcases hrr with rfl | rfl | rfl | rfl
      · have HFI := Lib.hid (fun w => fill_any f hpf w)
        have HX := Lib.hid (fillB_length f)
        generalize fillB f = x at *
        go_wp2_with fail
        refine (HFI.out _).mono ?_
        intro e w4 hpost
        obtain ⟨he, hg4⟩ := hpost
        subst he
        have HI4 := Lib.hid (HI.out.later hg4)
        clear hg4
        go_wp2_with fail
        refine (cwrite_ok HI4.out.cache HIN.out c (by rw [HI4.out.good.safe]; exact hcN) x HX.out).mono ?_
        intro e w5 hpost
        obtain ⟨he, hc5, ht5⟩ := hpost
        subst he
        have hgl : gm < w4.heap.size := HI4.out.row.lt rfl
        have HI5 := Lib.hid (show IsCache w5 C B U1 (i + 1) { s with f := putF s.f c (x, true) } ∧ Row w5 32 256 (.slice (some ⟨gm, 0, none⟩) N N) (m.map bc) ∧ Grow w w5 from ⟨hc5, HI4.out.row.kept ht5 (fun g e => by cases e; exact HI4.out.out), Below.trans HI4.out.grow (ht5.below HI4.out.grow.size HI4.out.lo)⟩)
        have hc2'' : w5.cell? { block := (y.add (i * 3)).block, off := (y.add (i * 3)).off + 2 } = some (.int .u32 (f : Int)) := (HI5.out.2.2.cell (p := (y.add (i * 3)).add 2) (by rw [add_block, add_block]; exact HYB.out)).trans HC2.out
        clear hc5 ht5 hgl hc0' hc1' hc2'
        go_wp2_with fail
        refine (HFI.out _).mono ?_
        intro e w6 hpost
        obtain ⟨he, hg6⟩ := hpost
        subst he
        have HR6 := Lib.hid (HI5.out.2.1.kept (Touch.of_below (S := []) hg6) (by simp))
        have HTN := Lib.hid (HI4.out.tells.write c hcN HX.out)
        have HCM := Lib.hid (show c < m.length by rw [HI4.out.tells.len]; exact hcN)
        have HTH := Lib.hid (show w6.there gm (c * 256) (bc x).toArray.size by rw [List.size_toArray, bc_length, HX.out]; exact HR6.out.there (by rw [List.length_map]; exact HCM.out))
        have htc : Touch [gm] w6 (w6.setCells gm (c * 256) (bc x)) := touch_setCells (by simp) _ _ _
        have HI6 := Lib.hid (show RState N (i + 1) w C B gm U1 { s with f := putF s.f c (x, true) } (m.set c x) (w6.setCells gm (c * 256) (bc x)) from
          { cache := (HI5.out.1.grow hg6).kept htc (fun k hk hm => HI4.out.out (List.mem_singleton.1 hm ▸ hk))
            good := HI4.out.good.put _
            tells := HTN.out
            nopin := HI4.out.nopin
            row := HR6.out.storeB HX.out HCM.out
            out := HI4.out.out
            lo := HI4.out.lo
            low := HI4.out.low
            grow := Below.trans (HI5.out.2.2.trans hg6) (htc.below (HI5.out.2.2.trans hg6).size (fun j hj => by rw [List.mem_singleton.1 hj]; exact HI4.out.low)) })
        have HSx := Lib.hid (bsize HX.out)
        have cb0 : (0 : Int) ≤ (c : Int) := by omega
        have cb1 : (c : Int) < (N : Int) := by omega
        clear hg6 htc hc2''
        go_wp2_with (refine wpList_store_mid rfl 32 _ _ rfl gm (c * 256) (bc x).toArray rfl rfl HTH.out HSx.out (all_oneCell_toArray (bc_one _)) ?_)
        go_roundw
        case rel => exact ⟨i + 1, by omega, by go_num, _, _, _, HI6⟩
        case measure => simp [intOf]; omega
      · have hcm : c < m.length := by rw [HI.out.tells.len]; exact hcN
        obtain ⟨x, hx⟩ : ∃ x, m[c]? = some x := ⟨m[c], by simp [hcm]⟩
        have HX := Lib.hid (HI.out.tells.all x (List.mem_of_getElem? hx))
        have HRD := Lib.hid (cread_any HI.out.cache HIN.out HI.out.good HI.out.tells c hcN hx)
        have HXM := Lib.hid (show (m.map bc)[c]? = some (bc x) by rw [List.getElem?_map, hx]; rfl)
        have hz := zero32
        have hzs := zero_size
        have HSz := Lib.hid (bsize HX.out)
        have HSl := Lib.hid (show (Try.prog.info? 32).map (·.size) = some (bc x).length by rw [bc_length, HX.out]; exact size32)
        have HO := Lib.hid (show (bc x).toArray.all (·.oneCell') = true from all_oneCell_toArray (bc_one _))
        have HEQ := Lib.hid (equal32 x HX.out)
        generalize (bc zeroB).toArray = Z at *
        have HSo := Lib.hid (show Z.size = (bc x).toArray.size from hzs.trans (show 256 = (bc x).toArray.size by rw [List.size_toArray, bc_length, HX.out]))
        clear hcm hx hzs
        go_wp2_with fail
        refine HRD.out.mono ?_
        intro e w4 hpost
        obtain ⟨he, s', hst, hsd, hsp, hte, _⟩ := hpost
        subst he
        obtain ⟨U2, hI4⟩ := HI.out.step hst ((HI.out.good.same hsd).more (Nat.le_succ i)) hte hsp
        have HI4 := Lib.hid hI4
        clear hst hsd hsp hte hI4 hc0' hc1' hc2'
        go_upto_region 21 with (refine wpList_store_row rfl 32 _ _ rfl w4.heap.size (bc x).toArray rfl rfl 32 Z (heap_alloc_last _ _) HSz.out HSo.out HO.out ?_)
        have hg5 : Grow w4 ((w4.alloc (.cells Z 32)).setRow w4.heap.size (bc x).toArray) := below_setRow ((Below.refl _ _).alloc (Nat.le_refl _) _) (Nat.le_refl _) _
        have HI5 := Lib.hid (HI4.out.later hg5)
        have HCX := Lib.hid (show w4.heap.size < ((w4.alloc (.cells Z 32)).setRow w4.heap.size (bc x).toArray).heap.size ∧ ((w4.alloc (.cells Z 32)).setRow w4.heap.size (bc x).toArray).heap[w4.heap.size]? = some (.cells (bc x).toArray 32) from ⟨by simp, setRow_heap _ _ _ _ _ _ (heap_alloc_last _ _)⟩)
        clear hg5
        generalize (w4.alloc (.cells Z 32)).setRow w4.heap.size (bc x).toArray = W5 at *
        obtain ⟨BX, hBX⟩ : ∃ g, g = w4.heap.size := ⟨_, rfl⟩
        rw [← hBX] at HCX
        rw [← hBX]
        clear hBX
        have HRG := Lib.hid (HI5.out.row.range HXM.out)
        have HGL := Lib.hid (show gm < W5.heap.size from HI5.out.row.lt rfl)
        refine wp_region_facts (by kernel_rfl) [[], [(0, some 100)], [(1, some 101)], [(2, some 102)], [(2, some 102)], [(2, some 102)], [(2, some 102), (4, some 104), (5, some 105)], [(2, some 102), (6, some 106)], [(2, some 102), (3, some 103), (7, some 107)], [(2, some 102), (8, some 108)]] [(0, some 100), (1, some 101), (2, some 102), (3, some 103), (4, some 104), (5, some 105), (6, some 106), (7, some 107), (8, some 108), (9, some 109)] (by kernel_rfl) (by kernel_rfl) (by kernel_rfl) (Touch []) (Touch.refl []) (fun _ _ _ h h' => h.trans h' (fun i hi => .inl hi)) [Is (Value.int .i64 0), Is (Value.bool false), Is (Value.bool false), Is (Value.agg (bc x).toArray), Is (Value.slice (some ⟨gm, 0, none⟩) N N), Is (Value.int .i64 (c : Int)), Is (Value.pointer (some ⟨gm, c * 256, none⟩)), Is (Value.agg (bc x).toArray), Is (Value.bool false), Is (Value.bool false)] rfl ⟨is_stab _ _, is_stab _ _, is_stab _ _, is_stab _ _, is_stab _ _, is_stab _ _, is_stab _ _, is_stab _ _, is_stab _ _, is_stab _ _, trivial⟩ ⟨?o0, ?o1, ?o2, ?o3, ?o4, ?o5, ?o6, ?o7, ?o8, ?o9, trivial⟩ ?_
        case o0 =>
          intro vals wq hRq hpq
          simp only [List.getD_cons_zero, List.getD_cons_succ, canonP]
          simp only [Oper.gives]
          go_simp
          exact ⟨is_mk _ _, (Touch.refl []) _⟩
        case o1 =>
          intro vals wq hRq hpq
          simp only [factsP, List.getD_cons_zero, List.getD_cons_succ] at hpq
          have f0 := hpq.1
          replace hpq := hpq.2
          clear hpq
          replace f0 : vals 0 = _ := f0
          simp only [List.getD_cons_zero, List.getD_cons_succ, canonP, f0]
          clear f0
          simp only [Oper.gives]
          go_simp
          exact ⟨is_mk _ _, (Touch.refl []) _⟩
        case o2 =>
          intro vals wq hRq hpq
          simp only [factsP, List.getD_cons_zero, List.getD_cons_succ] at hpq
          have f1 := hpq.1
          replace hpq := hpq.2
          clear hpq
          replace f1 : vals 1 = _ := f1
          simp only [List.getD_cons_zero, List.getD_cons_succ, canonP, f1]
          clear f1
          simp only [Oper.gives]
          go_simp
          exact ⟨is_mk _ _, (Touch.refl []) _⟩
        case o3 =>
          intro vals wq hRq hpq
          simp only [factsP, List.getD_cons_zero, List.getD_cons_succ] at hpq
          have f2 := hpq.1
          replace hpq := hpq.2
          clear hpq
          replace f2 : vals 2 = _ := f2
          simp only [List.getD_cons_zero, List.getD_cons_succ, canonP, f2]
          clear f2
          have hbx : wq.heap[BX]? = some (.cells (bc x).toArray 32) := (Touch.block ((Touch.drew [] _).trans hRq (by simp)) BX HCX.out.1 (by simp)).trans HCX.out.2
          rw [if_pos (by rfl)]
          exact gives_load_row 32 _ rfl BX rfl 32 (bc x).toArray (0, 0) _ hbx Try.underlying32 rfl HSz.out ⟨is_mk _ _, Touch.refl _ _⟩
        case o4 =>
          intro vals wq hRq hpq
          simp only [factsP, List.getD_cons_zero, List.getD_cons_succ] at hpq
          have f2 := hpq.1
          replace hpq := hpq.2
          clear hpq
          replace f2 : vals 2 = _ := f2
          simp only [List.getD_cons_zero, List.getD_cons_succ, canonP, f2]
          clear f2
          simp only [Oper.gives]
          go_simp
          exact ⟨is_mk _ _, (Touch.refl []) _⟩
        case o5 =>
          intro vals wq hRq hpq
          simp only [factsP, List.getD_cons_zero, List.getD_cons_succ] at hpq
          have f2 := hpq.1
          replace hpq := hpq.2
          clear hpq
          replace f2 : vals 2 = _ := f2
          simp only [List.getD_cons_zero, List.getD_cons_succ, canonP, f2]
          clear f2
          simp only [Oper.gives]
          go_simp
          exact ⟨is_mk _ _, (Touch.refl []) _⟩
        case o6 =>
          intro vals wq hRq hpq
          simp only [factsP, List.getD_cons_zero, List.getD_cons_succ] at hpq
          have f2 := hpq.1
          replace hpq := hpq.2
          have f4 := hpq.1
          replace hpq := hpq.2
          have f5 := hpq.1
          replace hpq := hpq.2
          clear hpq
          replace f2 : vals 2 = _ := f2
          replace f4 : vals 4 = _ := f4
          replace f5 : vals 5 = _ := f5
          simp only [List.getD_cons_zero, List.getD_cons_succ, canonP, f2, f4, f5]
          clear f2 f4 f5
          have hb0 : (0 : Int) ≤ (c : Int) := by omega
          have hb1 : (c : Int) < (N : Int) := by omega
          simp only [Oper.gives]
          go_simp
          exact ⟨is_mk _ _, Touch.refl _ _⟩
        case o7 =>
          intro vals wq hRq hpq
          simp only [factsP, List.getD_cons_zero, List.getD_cons_succ] at hpq
          have f2 := hpq.1
          replace hpq := hpq.2
          have f6 := hpq.1
          replace hpq := hpq.2
          clear hpq
          replace f2 : vals 2 = _ := f2
          replace f6 : vals 6 = _ := f6
          simp only [List.getD_cons_zero, List.getD_cons_succ, canonP, f2, f6]
          clear f2 f6
          have hrr := range_touch HRG.out ((Touch.drew [] _).trans hRq (by simp)) HGL.out (by simp)
          rw [if_pos (by rfl)]
          exact gives_load_mid 32 _ rfl gm (c * 256) rfl (bc x) _ hrr Try.underlying32 rfl HSl.out ⟨is_mk _ _, Touch.refl _ _⟩
        case o8 =>
          intro vals wq hRq hpq
          simp only [factsP, List.getD_cons_zero, List.getD_cons_succ] at hpq
          have f2 := hpq.1
          replace hpq := hpq.2
          have f3 := hpq.1
          replace hpq := hpq.2
          have f7 := hpq.1
          replace hpq := hpq.2
          clear hpq
          replace f2 : vals 2 = _ := f2
          replace f3 : vals 3 = _ := f3
          replace f7 : vals 7 = _ := f7
          simp only [List.getD_cons_zero, List.getD_cons_succ, canonP, f2, f3, f7]
          clear f2 f3 f7
          have hq1 := HEQ.out
          have hgT := guardT
          simp only [Oper.gives]
          go_simp
          exact ⟨is_mk _ _, Touch.refl _ _⟩
        case o9 =>
          intro vals wq hRq hpq
          simp only [factsP, List.getD_cons_zero, List.getD_cons_succ] at hpq
          have f2 := hpq.1
          replace hpq := hpq.2
          have f8 := hpq.1
          replace hpq := hpq.2
          clear hpq
          replace f2 : vals 2 = _ := f2
          replace f8 : vals 8 = _ := f8
          simp only [List.getD_cons_zero, List.getD_cons_succ, canonP, f2, f8]
          clear f2 f8
          simp only [Oper.gives]
          go_simp
          exact ⟨is_mk _ _, (Touch.refl []) _⟩
        intro vals wz hRwz hfwz
        simp only [AllFacts] at hfwz
        have g0 := hfwz.1
        replace hfwz := hfwz.2
        have g1 := hfwz.1
        replace hfwz := hfwz.2
        have g2 := hfwz.1
        replace hfwz := hfwz.2
        have g3 := hfwz.1
        replace hfwz := hfwz.2
        have g4 := hfwz.1
        replace hfwz := hfwz.2
        have g5 := hfwz.1
        replace hfwz := hfwz.2
        have g6 := hfwz.1
        replace hfwz := hfwz.2
        have g7 := hfwz.1
        replace hfwz := hfwz.2
        have g8 := hfwz.1
        replace hfwz := hfwz.2
        have g9 := hfwz.1
        replace hfwz := hfwz.2
        clear hfwz
        replace g0 : vals 0 = _ := g0
        replace g1 : vals 1 = _ := g1
        replace g2 : vals 2 = _ := g2
        replace g3 : vals 3 = _ := g3
        replace g4 : vals 4 = _ := g4
        replace g5 : vals 5 = _ := g5
        replace g6 : vals 6 = _ := g6
        replace g7 : vals 7 = _ := g7
        replace g8 : vals 8 = _ := g8
        replace g9 : vals 9 = _ := g9
        simp only [canonP, Act.put, List.setIfInBounds_toArray, List.set_cons_succ, List.set_cons_zero, g0, g1, g2, g3, g4, g5, g6, g7, g8, g9]
        clear g0 g1 g2 g3 g4 g5 g6 g7 g8 g9
        have HI6 := Lib.hid (HI5.out.later (((Touch.drew [] W5).trans hRwz (by simp)).below (Nat.le_refl _) (by simp)))
        clear hRwz
        go_wp2_with fail
        go_roundw
        case rel => exact ⟨i + 1, by omega, by go_num, _, _, _, HI6⟩
        case measure => simp [intOf]; omega
      · go_wp2_with fail
        refine (wb_ok HI.out.cache HIN.out HI.out.good HIK.out b0 HPB.out.2).mono ?_
        intro e w4 hpost
        obtain ⟨he, hst⟩ := hpost
        subst he
        obtain ⟨U2, hI4⟩ := HI.out.step hst (HI.out.good.wb b0) (HI.out.tells.wb HI.out.good.safe HI.out.lens b0) (wb_p s b0)
        have HI4 := Lib.hid hI4
        clear hst hI4 hc0' hc1' hc2'
        go_wp2_with fail
        go_roundw
        case rel => exact ⟨i + 1, by omega, by go_num, _, _, _, HI4⟩
        case measure => simp [intOf]; omega
      · go_wp2_with fail
        refine (ev_ok HI.out.cache b0 HPB.out.2).mono ?_
        intro e w4 hpost
        obtain ⟨he, hst⟩ := hpost
        subst he
        obtain ⟨U2, hI4⟩ := HI.out.step (hst.mono (Nat.le_succ i)) ((HI.out.good.ev b0).more (Nat.le_succ i)) (HI.out.tells.ev b0) (ev_p s b0)
        have HI4 := Lib.hid hI4
        clear hst hI4 hc0' hc1' hc2'
        go_wp2_with fail
        go_roundw
        case rel => exact ⟨i + 1, by omega, by go_num, _, _, _, HI4⟩
        case measure => simp [intOf]; omega
    · obtain rfl : L = i := by omega
      go_wp2_with fail
      refine bodyPost_ret (results_tmp4 rfl _ _ _) rfl ?_
      exact ⟨C, B, gm, U1, s, m, rfl, HI.out⟩
#print axioms ran_ok
end Go.Proofs.Ytmfofobmceflmaa
