/- Rows of blocks; transactions that are only read; quernref17.Recover: the walk. -/
import Derived.Test.YtokehhegomiciaaH40
import Derived.Test.YtokehhegomiciaaH16
import Derived.Test.YtokehhegomiciaaApp
import Derived.Deep.CutBlock
set_option linter.unusedVariables false
set_option linter.unusedSimpArgs false
namespace Go.Proofs.Ytokehhegomiciaa
open Go.RowKit Go.Maps

/-! ### rows of blocks -/
def BRow (w : World) (v : Value) (l : List Blk) : Prop := Row w 33 256 v (l.map bc)
theorem BRow.len {w : World} {v : Value} {l : List Blk} (h : BRow w v l) : ∃ a cap, v = .slice a l.length cap := by
  obtain ⟨a, cap, hv⟩ := Row.len h
  rw [List.length_map] at hv
  exact ⟨a, cap, hv⟩
theorem BRow.grow {w w' : World} {v : Value} {l : List Blk} (h : BRow w v l) (hg : Grow w w') : BRow w' v l := Row.kept h (Touch.of_below (S := []) hg) (by simp)
theorem BRow.blk {w : World} {v : Value} {l : List Blk} (h : BRow w v l) {x : Blk} (hx : x ∈ l) : x.length = 256 := by
  have := h.1 _ (List.mem_map_of_mem hx)
  rwa [bc_length] at this
theorem BRow.open_ {w : World} {v : Value} {l : List Blk} (h : BRow w v l) (hl : 0 < l.length) : ∃ g cap, v = .slice (some ⟨g, 0, none⟩) l.length cap ∧ g < w.heap.size := by
  obtain ⟨g, cap, hv, hg, _⟩ := Row.open_ h (by rw [List.length_map]; exact hl)
  rw [List.length_map] at hv
  exact ⟨g, cap, hv, hg⟩
theorem BRow.range {w : World} {g n cap : Nat} {l : List Blk} (h : BRow w (.slice (some ⟨g, 0, none⟩) n cap) l) {k : Nat} {x : Blk} (hk : l[k]? = some x) : w.rangeAt g (k * 256) (bc x) := Row.range h (by rw [List.getElem?_map, hk]; rfl)
theorem bsizeL {x : Blk} (hx : x.length = 256) : (Try.prog.info? 33).map (·.size) = some (bc x).length := by rw [bc_length, hx]; exact size32
theorem bsize {x : Blk} (hx : x.length = 256) : (Try.prog.info? 33).map (·.size) = some (bc x).toArray.size := by rw [List.size_toArray, bc_length, hx]; exact size32
/-- a row of blocks of one's own -/
structure GInv (w : World) (v : Value) (l : List Blk) (wr : World) : Prop where
  row : BRow wr v l
  lo : ∀ g, v.ownBlock = some g → w.heap.size ≤ g
  grow : Grow w wr
theorem GInv.later {W : World} {v : Value} {l : List Blk} {wr w' : World} (h : GInv W v l wr) (hg : Grow wr w') : GInv W v l w' := ⟨h.row.grow hg, h.lo, Grow.trans h.grow hg⟩
theorem BRow.stored {gd n cap : Nat} {l : List Blk} {wr : World} (h : BRow wr (.slice (some ⟨gd, 0, none⟩) n cap) l) {x : Blk} (hc : x.length = 256) {b : Nat} (hlt : b < l.length) : BRow (wr.setCells gd (b * 256) (bc x)) (.slice (some ⟨gd, 0, none⟩) n cap) (l.set b x) := by
  have h1 := Row.store h (i := b) (c := bc x) (by rw [bc_length, hc]) (by rw [List.length_map]; exact hlt)
  unfold BRow
  rw [List.map_set]
  exact h1
theorem GInv.stored {w : World} {gd n cap : Nat} {l : List Blk} {wr : World} (h : GInv w (.slice (some ⟨gd, 0, none⟩) n cap) l wr) {x : Blk} (hc : x.length = 256) {b : Nat} (hlt : b < l.length) : GInv w (.slice (some ⟨gd, 0, none⟩) n cap) (l.set b x) (wr.setCells gd (b * 256) (bc x)) where
  row := h.row.stored hc hlt
  grow := Below.trans h.grow ((touch_setCells (S := [gd]) (by simp) _ _ _).below h.grow.size (fun j hj => by rw [List.mem_singleton.1 hj]; exact h.lo gd rfl))
  lo := h.lo
theorem empty_row (w : World) (e sz : Nat) : Row (w.alloc (.cells #[] e)) e sz (.slice (some ⟨w.heap.size, 0, none⟩) 0 0) [] :=
  ⟨by simp, by simp, .inr ⟨w.heap.size, 0, #[], rfl, Nat.zero_le _, heap_alloc_last _ _, by simp, by simp, by simp, by simp⟩⟩
theorem mk_blks (w : World) : (Instr.buildSlice 50 0 #[]).run Try.prog w = .ok (.slice (some ⟨w.heap.size, 0, none⟩) 0 0) (w.alloc (.cells #[] 33)) := by kernel_rfl
/-- a copy of rows of blocks -/
theorem copyrow {w wa : World} {va : Value} {l : List Blk} (ha : AppAtE 33 256 (w.alloc (.cells #[] 33)) (.slice (some ⟨w.heap.size, 0, none⟩) 0 0) ([] ++ l.map bc) va wa) (ht : Touch (ownL (.slice (some ⟨w.heap.size, 0, none⟩) 0 0)) (w.alloc (.cells #[] 33)) wa) : GInv w va l wa where
  row := by have := ha.1; rw [List.nil_append] at this; exact this
  lo := fun g e => by
    rcases ha.2 with h1 | ⟨g', h1, h2⟩
    · rw [h1] at e
      exact Nat.le_of_eq (Option.some.inj e)
    · rw [e] at h1; cases h1
      simp at h2
      omega
  grow := Below.trans (Grow.alloc w _) (ht.below (by simp) (fun k hk => by have := ownL_mem.1 hk; exact Nat.le_of_eq (Option.some.inj this)))

/-! ### transactions that are only read -/
def tcell (x : AV) : List Value := [.int .u32 (x.seq : Int), x.vc, x.vr]
def TSee (w : World) (v : Value) (l : List AV) : Prop := See w 3 v (l.map tcell) ∧ ∀ x ∈ l, AVIs w x
theorem TSee.grow {w w' : World} {v : Value} {l : List AV} (h : TSee w v l) (hg : Grow w w') : TSee w' v l := ⟨h.1.grow hg, fun x hx => (h.2 x hx).grow hg⟩
theorem TSee.len {w : World} {v : Value} {l : List AV} (h : TSee w v l) : ∃ a cap, v = .slice a l.length cap := by
  obtain ⟨a, cap, hv, _⟩ := h.1
  exact ⟨a, cap, by rw [hv, List.length_map]⟩
theorem TSee.at_ {w : World} {a : Option Addr} {n cap : Nat} {l : List AV} (h : TSee w (.slice a n cap) l) {k : Nat} {x : AV} (hk : l[k]? = some x) : ∃ g o, a = some ⟨g, o, none⟩ ∧ g < w.heap.size ∧ w.rangeAt g (o + k * 3) (tcell x) ∧ AVIs w x := by
  obtain ⟨a', cap', hv, hi⟩ := h.1
  obtain ⟨g, o, ha, hl, hr⟩ := hi k (tcell x) (by rw [List.getElem?_map, hk]; rfl)
  cases hv
  exact ⟨g, o, ha, hl, hr, h.2 x (List.mem_of_getElem? hk)⟩
/-! ### Recover -/
def RecPost (l : List Blk) (w : World) (e : Ending) (w' : World) : Prop := ∃ v, e = .returned v ∧ GInv w v l w'
theorem revd_take {l : List AV} {d : Nat} {x : AV} (h : l[d]? = some x) (b : Int) : revd (l.take (d + 1)) b = (revd (l.take d) b || decide (b ∈ x.rs)) := by
  rw [List.take_add_one, h]; exact revd_append _ _ _
theorem recCs_step {l : List AV} {cs : List Cp} {k : Nat} {c : Cp} (h : cs[k]? = some c) (out : List Blk) : recCs l (cs.drop k) out = recCs l (cs.drop (k + 1)) (if 0 ≤ c.1 ∧ c.1 < out.length ∧ revd l c.1 = false then out.set c.1.toNat c.2 else out) := by
  have hk := (List.getElem?_eq_some_iff.1 h).1
  have he := (List.getElem?_eq_some_iff.1 h).2
  rw [List.drop_eq_getElem_cons hk, he]
  rfl
theorem recov_step {l : List AV} {i : Nat} {x : AV} (h : l[i]? = some x) (out : List Blk) : recov (l.drop i) out = recov (l.drop (i + 1)) (recCs (l.drop i) x.cs out) := by
  have hk := (List.getElem?_eq_some_iff.1 h).1
  have he := (List.getElem?_eq_some_iff.1 h).2
  rw [List.drop_eq_getElem_cons hk, he]
  rfl
set_option maxRecDepth 100000 in
set_option maxHeartbeats 8000000 in
theorem recover_ok {w : World} {v vt : Value} {im : List Blk} {th : List AV} (h : BRow w v im) (ht : TSee w vt th) (him : 1 ≤ im.length) (him2 : im.length ≤ 4096) (hth : th.length ≤ 1000) (hcs : ∀ x ∈ th, x.cs.length ≤ 600 ∧ x.rs.length ≤ 600) :
    Calls Try.prog 18 #[v, vt] w (RecPost (recov th im) w) := by
  have HB0 := Lib.hid h
  have HT0 := Lib.hid ht
  have HCS := Lib.hid hcs
  obtain ⟨n, hn⟩ : ∃ n, n = im.length := ⟨_, rfl⟩
  obtain ⟨m, hm⟩ : ∃ m, m = th.length := ⟨_, rfl⟩
  have HN := Lib.hid hn
  have HM := Lib.hid hm
  obtain ⟨a, cap, hv⟩ := h.len
  obtain ⟨at0, kt, hvt⟩ := ht.len
  rw [← hn] at hv him him2
  rw [← hm] at hvt hth
  subst hv hvt
  have hmk := mk_blks
  obtain ⟨ib, hib, hx0, hx1, hx2⟩ := info_parts info32b
  have HIB := Lib.hid hib
  have HE := Lib.hid (empty_row w 33 256)
  have HSB := Lib.hid (Src.grow (Row.src HB0.out (fun c hc u hu => by obtain ⟨x, _, rfl⟩ := List.mem_map.1 hc; exact bc_one x u hu)) (Grow.alloc w (.cells #[] 33)))
  have HLL := Lib.hid (show (([] : List Blk).map bc).length + (im.map bc).length ≤ 1000000 by rw [List.length_map, List.length_map, List.length_nil]; have := HN.out; omega)
  clear h ht hcs hn hm hib
  go_enter Try.func18, Try.ntmps18
  go_upto_region 2 with (at_builtin; refine wpList_append_rows rfl (.tmp 11) (.tmp 12) 50 rfl 33 ib (.agg (bc zeroB).toArray) 256 256 Try.underlying50 HIB.out hx0 hx1 hx2 (by show (bc zeroB).toArray.size = 256; exact zero_size) (by omega) (.slice (some ⟨w.heap.size, 0, none⟩) 0 0) (.slice a n cap) _ _ rfl HE.out rfl HSB.out HLL.out (by omega) ?_; intro va wa happ htch)
  have HI0 := Lib.hid (show GInv w va im wa from copyrow happ htch)
  obtain ⟨p, kd, hva⟩ := BRow.len HI0.out.row
  rw [← HN.out] at hva
  obtain ⟨gd, kd', hvd, _⟩ := BRow.open_ HI0.out.row (by rw [← HN.out]; omega)
  rw [hva, ← HN.out] at hvd
  cases hvd
  subst hva
  clear happ htch hmk
  go_wp2
  go_loopw [6] (fun t6 wr => ∃ (i : Nat) (cur : List Blk), t6 = .int .i64 (i : Int) ∧ i ≤ m ∧ cur.length = n ∧ Hid (GInv w (.slice (some ⟨gd, 0, none⟩) n kd) cur wr ∧ recov (th.drop i) cur = recov th im)) (fun t6 _ => m - (intOf t6).toNat)
  case atStart => exact ⟨0, im, by go_num, by omega, HN.out.symm, Lib.hid ⟨HI0.out, rfl⟩⟩
  case round =>
    obtain ⟨i, cur, rfl, him', hcl, HI⟩ := hrel
    by_cases hi : i < m
    · obtain ⟨x, hx⟩ : ∃ x, th[i]? = some x := ⟨th[i]'(by rw [← HM.out]; exact hi), by simp⟩
      obtain ⟨gt, ot, rfl, hgt, hrt, hav⟩ := HT0.out.at_ hx
      obtain ⟨ac, cc, hvc⟩ := hav.cs.len
      obtain ⟨nc, hnc⟩ : ∃ nc, nc = x.cs.length := ⟨_, rfl⟩
      rw [← hnc] at hvc
      have HNC := Lib.hid hnc
      have HVC := Lib.hid hvc
      have HX := Lib.hid hx
      have HAV := Lib.hid hav
      have HGT := Lib.hid hgt
      have HQ1 := Lib.hid (show w.cell? ⟨gt, ot + i * 3 + 1, none⟩ = some (.slice ac nc cc) from (hrt 1 _ rfl).trans (by rw [hvc]))
      have hncb : nc ≤ 600 := by rw [hnc]; exact (HCS.out x (List.mem_of_getElem? hx)).1
      have HI1 := Lib.hid (show GInv w (.slice (some ⟨gd, 0, none⟩) n kd) cur wr ∧ recov (th.drop (i + 1)) (recCs (th.drop i) (x.cs.drop 0) cur) = recov th im by rw [List.drop_zero, ← recov_step hx]; exact HI.out)
      clear hx hrt hav hvc hnc hgt HI
      have b0 : (0 : Int) ≤ (i : Int) := by omega
      have b1 : (i : Int) < (m : Int) := by omega
      go_wp2
      go_loopw [7] (fun t7 wr => ∃ (k : Nat) (cur : List Blk), t7 = .int .i64 (k : Int) ∧ k ≤ nc ∧ cur.length = n ∧ Hid (GInv w (.slice (some ⟨gd, 0, none⟩) n kd) cur wr ∧ recov (th.drop (i + 1)) (recCs (th.drop i) (x.cs.drop k) cur) = recov th im)) (fun t7 _ => nc - (intOf t7).toNat)
      case atStart => exact ⟨0, cur, by go_num, by omega, hcl, HI1⟩
      case round =>
        clear hcl HI1 cur
        obtain ⟨k, cur, rfl, hkn, hcl, HI⟩ := hrel
        have hq1 : wr.cell? ⟨gt, ot + i * 3 + 1, none⟩ = some (.slice ac nc cc) := (HI.out.1.grow.cell (p := ⟨gt, ot + i * 3 + 1, none⟩) HGT.out).trans HQ1.out
        by_cases hk : k < nc
        · obtain ⟨c, hck⟩ : ∃ c, x.cs[k]? = some c := ⟨x.cs[k]'(by rw [← HNC.out]; exact hk), by simp⟩
          have hcs := (HAV.out.grow HI.out.1.grow).cs
          rw [HVC.out] at hcs
          obtain ⟨gc, oc, rfl, hgc, hrg, hcell, hcok⟩ := hcs.at_ hck
          have HRD := Lib.hid (show gc < w.heap.size ∧ w.rangeAt gc (oc + k * 257) (ccell c) from by
            have hcs := HAV.out.cs
            rw [HVC.out] at hcs
            obtain ⟨gc', oc', he, hgc', hrg', _⟩ := hcs.at_ hck
            cases he
            exact ⟨hgc', hrg'⟩)
          have HCK := Lib.hid hck
          have HC2 := Lib.hid hcok.2
          have b2 : (0 : Int) ≤ (k : Int) := by omega
          have b3 : (k : Int) < (nc : Int) := by omega
          obtain ⟨b, hb⟩ : ∃ b, c.1 = b := ⟨_, rfl⟩
          have HBE := Lib.hid hb
          rw [hb] at hcell
          have HLC := Lib.hid hcell
          clear hcs hck hrg hcok hb hgc
          obtain ⟨cb, hcb⟩ : ∃ cb : Bool, (cb = true ↔ 0 ≤ b ∧ b < (n : Int)) := ⟨decide (0 ≤ b ∧ b < (n : Int)), by simp⟩
          have HCB := Lib.hid hcb
          obtain ⟨wo, rfl⟩ : ∃ wo : World, wo = wr := ⟨_, rfl⟩
          go_upto_region 9 with fail
          go_cut [9] from 39 to 46 (fun t9 wx => t9 = .bool cb ∧ wx = wo)
          case first =>
            by_cases h0 : 0 ≤ b
            · have d0 : decide (b ≥ 0) = true := decide_eq_true h0
              by_cases h1 : b < (n : Int)
              · have HE := Lib.hid (show cb = true from HCB.out.2 ⟨h0, h1⟩)
                have d1 : decide (b < (n : Int)) = true := decide_eq_true h1
                go_wp2_with fail
                go_meet
                exact ⟨by rw [HE.out], rfl⟩
              · have HE := Lib.hid (show cb = false from bfalse HCB.out (fun h => h1 h.2))
                have d1 : decide (b < (n : Int)) = false := decide_eq_false h1
                go_wp2_with fail
                go_meet
                exact ⟨by rw [HE.out], rfl⟩
            · have HE := Lib.hid (show cb = false from bfalse HCB.out (fun h => h0 h.1))
              have d0 : decide (b ≥ 0) = false := decide_eq_false h0
              go_wp2_with fail
              go_meet
              exact ⟨by rw [HE.out], rfl⟩
          case rest =>
            obtain ⟨rfl, rfl⟩ := hcut
            have HJ0 := Lib.hid (show cb = (cb && !revd ((th.drop i).take (i - i)) b) by rw [Nat.sub_self, List.take_zero]; unfold revd; simp)
            go_wp2
            go_loopw [9, 10] (fun t9 t10 wr => ∃ (j : Nat) (f : Bool), t10 = .int .i64 (j : Int) ∧ i ≤ j ∧ j ≤ m ∧ t9 = .bool f ∧ Hid (f = (cb && !revd ((th.drop i).take (j - i)) b) ∧ Grow wc wr)) (fun _ t10 _ => m - (intOf t10).toNat)
            case atStart => exact ⟨i, cb, by go_num, by omega, by omega, rfl, Lib.hid ⟨HJ0.out, Grow.refl _⟩⟩
            case round =>
              obtain ⟨j, f, rfl, hij, hjm, rfl, HJ⟩ := hrel
              by_cases hj : j < m
              · obtain ⟨y, hy⟩ : ∃ y, th[j]? = some y := ⟨th[j]'(by rw [← HM.out]; exact hj), by simp⟩
                obtain ⟨g2, o2, he2, hg2, hr2, hav2⟩ := (HT0.out.grow (HI.out.1.grow.trans HJ.out.2)).at_ hy
                cases he2
                obtain ⟨ar, cr, hvr⟩ := hav2.rs.len
                have hq2 : wr.cell? ⟨gt, ot + j * 3 + 2, none⟩ = some (.slice ar y.rs.length cr) := (hr2 2 _ rfl).trans (by rw [hvr])
                have HRS := Lib.hid (show ISee wr (.slice ar y.rs.length cr) y.rs by rw [← hvr]; exact hav2.rs)
                have HRL := Lib.hid ((HCS.out y (List.mem_of_getElem? hy)).2)
                have HNF := Lib.hid (show (th.drop i)[j - i]? = some y by rw [List.getElem?_drop, show i + (j - i) = j by omega]; exact hy)
                obtain ⟨nr, hnr⟩ : ∃ nr, nr = y.rs.length := ⟨_, rfl⟩
                rw [← hnr] at hq2 HRS
                have b4 : (0 : Int) ≤ (j : Int) := by omega
                have b5 : (j : Int) < (m : Int) := by omega
                clear hr2 hav2 hvr hy hg2 hnr
                go_wp2_with fail
                refine (has_ok HRS.out (by have := HRL.out; omega) b).mono ?_
                rintro e w' ⟨rfl, rfl⟩
                have HNX := Lib.hid (show (cb && !revd ((th.drop i).take (j + 1 - i)) b) = (f && !decide (b ∈ y.rs)) by rw [show j + 1 - i = (j - i) + 1 by omega, revd_take HNF.out, HJ.out.1, Bool.not_or, Bool.and_assoc])
                obtain ⟨rb, hrb⟩ : ∃ rb, decide (b ∈ y.rs) = rb := ⟨_, rfl⟩
                rw [hrb] at HNX ⊢
                clear hrb
                cases rb with
                | true =>
                  go_wp2_with fail
                  go_roundw
                  case rel => exact ⟨j + 1, false, by go_num, by omega, by omega, rfl, Lib.hid ⟨by rw [HNX.out]; simp, HJ.out.2⟩⟩
                  case measure => simp [intOf]; omega
                | false =>
                  go_wp2_with fail
                  go_roundw
                  case rel => exact ⟨j + 1, f, by go_num, by omega, by omega, rfl, Lib.hid ⟨by rw [HNX.out]; simp, HJ.out.2⟩⟩
                  case measure => simp [intOf]; omega
              · obtain rfl : j = m := by omega
                rename World => w3
                have HF := Lib.hid (show f = (cb && !revd (th.drop i) b) by
                  have h := HJ.out.1
                  rwa [List.take_of_length_le (by rw [List.length_drop, ← HM.out]; exact Nat.le_refl _)] at h)
                have HG3 := Lib.hid HJ.out.2
                have HR := Lib.hid (show recov (th.drop (i + 1)) (recCs (th.drop i) (x.cs.drop (k + 1)) (if f = true then cur.set b.toNat c.2 else cur)) = recov th im by
                  rw [← HI.out.2, recCs_step HCK.out]
                  congr 2
                  rw [HBE.out]
                  by_cases h : 0 ≤ b ∧ b < (cur.length : Int) ∧ revd (th.drop i) b = false
                  · rw [if_pos h, if_pos (by rw [HF.out, h.2.2, HCB.out.2 ⟨h.1, by rw [← hcl]; exact h.2.1⟩]; rfl)]
                  · rw [if_neg h, if_neg]
                    intro hf
                    rw [HF.out, Bool.and_eq_true, Bool.not_eq_true'] at hf
                    have h2 := HCB.out.1 hf.1
                    exact h ⟨h2.1, by rw [hcl]; exact h2.2, hf.2⟩)
                cases f with
                | false =>
                  have HI2 := Lib.hid (show GInv w (.slice (some ⟨gd, 0, none⟩) n kd) cur w3 ∧ recov (th.drop (i + 1)) (recCs (th.drop i) (x.cs.drop (k + 1)) cur) = recov th im from ⟨HI.out.1.later HG3.out, by have := HR.out; rwa [if_neg (by simp)] at this⟩)
                  clear HI HR HJ HF
                  go_wp2_with fail
                  go_roundw
                  case rel => exact ⟨k + 1, cur, by go_num, by omega, hcl, HI2⟩
                  case measure => simp [intOf]; omega
                | true =>
                  obtain ⟨β, hβ, hβn⟩ : ∃ β : Nat, b = (β : Int) ∧ β < n := by
                    have h := HF.out
                    have h2 := HCB.out.1 (Bool.and_eq_true _ _ ▸ h.symm).1
                    exact ⟨b.toNat, by omega, by omega⟩
                  subst hβ
                  have HGW := Lib.hid (show Grow w w3 from HI.out.1.grow.trans HG3.out)
                  have HI2 := Lib.hid (show GInv w (.slice (some ⟨gd, 0, none⟩) n kd) (cur.set β c.2) (w3.setCells gd (β * 256) (bc c.2)) ∧ recov (th.drop (i + 1)) (recCs (th.drop i) (x.cs.drop (k + 1)) (cur.set β c.2)) = recov th im from ⟨(HI.out.1.later HG3.out).stored HC2.out (by rw [hcl]; exact hβn), by have := HR.out; rwa [if_pos rfl, Int.toNat_natCast] at this⟩)
                  have HTH := Lib.hid (show w3.there gd (β * 256) (bc c.2).toArray.size from by
                    rw [show (bc c.2).toArray.size = 256 by rw [List.size_toArray, bc_length, HC2.out]]
                    exact Row.there (HI.out.1.later HG3.out).row (by rw [List.length_map, hcl]; exact hβn))
                  have HRB := Lib.hid (show w3.rangeAt gc (oc + k * 257 + 1) (bc c.2) from fun j u hj => by
                    have := (HGW.out.cell (p := ⟨gc, oc + k * 257 + (j + 1), none⟩) HRD.out.1).trans (HRD.out.2 (j + 1) u hj)
                    rw [show oc + k * 257 + (j + 1) = oc + k * 257 + 1 + j by omega] at this
                    exact this)
                  have hq1 : w3.cell? ⟨gt, ot + i * 3 + 1, none⟩ = some (.slice (some ⟨gc, oc, none⟩) nc cc) := (HGW.out.cell (p := ⟨gt, ot + i * 3 + 1, none⟩) HGT.out).trans HQ1.out
                  have b6 : (0 : Int) ≤ (β : Int) := by omega
                  have b7 : (β : Int) < (n : Int) := by omega
                  have HLI := Lib.hid (show (cur.set β c.2).length = n by rw [List.length_set]; exact hcl)
                  clear HI HR HJ HF hcell
                  go_wp2_with (first | (refine wpList_load_mid rfl 33 _ rfl gc (oc + k * 257 + 1) rfl (bc c.2) _ HRB.out Try.underlying33 rfl (bsizeL HC2.out) ?_) | (refine wpList_store_mid rfl 33 _ _ rfl gd (β * 256) (bc c.2).toArray rfl rfl HTH.out (bsize HC2.out) (all_oneCell_toArray (bc_one _)) ?_))
                  go_roundw
                  case rel => exact ⟨k + 1, cur.set β c.2, by go_num, by omega, HLI.out, HI2⟩
                  case measure => simp [intOf]; omega
        · obtain rfl : k = nc := by omega
          have HI2 := Lib.hid (show GInv w (.slice (some ⟨gd, 0, none⟩) n kd) cur wr ∧ recov (th.drop (i + 1)) cur = recov th im by
            have h := HI.out
            rw [show x.cs.drop k = [] from List.drop_eq_nil_of_le (by rw [← HNC.out]; exact Nat.le_refl _)] at h
            exact h)
          go_wp2
          go_roundw
          case rel => exact ⟨i + 1, cur, by go_num, by omega, hcl, HI2⟩
          case measure => simp [intOf]; omega
    · obtain rfl : i = m := by omega
      have HF := Lib.hid (show GInv w (.slice (some ⟨gd, 0, none⟩) n kd) (recov th im) wr by
        have h := HI.out
        rw [HM.out, List.drop_length] at h
        rw [← h.2]
        exact h.1)
      clear HI
      go_wp2
      go_ret
      exact ⟨_, rfl, HF.out⟩
#print axioms recover_ok
end Go.Proofs.Ytokehhegomiciaa
