/- The document's disk: Image, Flush: the walks. -/
import Derived.Test.YtieknecbheeekaaD40
set_option linter.unusedVariables false
set_option linter.unusedSimpArgs false
namespace Go.Proofs.Ytieknecbheeekaa
open Go.RowKit

set_option maxRecDepth 100000 in
set_option maxHeartbeats 2000000 in
theorem rimage_ok {w : World} {R : Nat} {T : List Nat} {l : List Blk} {ws : List (Nat × Blk)} {a f : Int} {g c : Nat} {vw : Value} (h : RDk w R T l ws a f g c vw) (hws : ∀ p ∈ ws, p.1 < l.length) (hm : ws.length ≤ 1000000) :
    Calls Try.prog 18 #[.pointer (some ⟨R, 0, none⟩)] w (ClonePost (applyW l ws) w) := by
  have HP := Lib.hid h
  have HWS := Lib.hid hws
  have hlen : (l.map bc).length = l.length := by simp
  have c0 := h.cells.1
  have c0' := ((Touch.alloc [] w (.cells #[] 44)).cell (a := ⟨R, 0, none⟩) (h.lt R h.inR) (by simp)).trans c0
  obtain ⟨ad, cw, hvw⟩ := h.waits.len
  have c1 := h.cells.2.1
  rw [hvw, List.length_map] at c1
  obtain ⟨m, hmm⟩ : ∃ m, m = ws.length := ⟨_, rfl⟩
  rw [← hmm] at c1 hm
  have HC1 := Lib.hid c1
  have HV := Lib.hid hvw
  have HM := Lib.hid hmm
  have HR := Lib.hid (h.row.kept (Touch.alloc [] w (.cells #[] 44)) (by simp))
  have HF := Lib.hid (flatten_length 256 _ h.row.1)
  have h1 := h.one
  have h2 := h.most
  have hmk := mk_empty
  obtain ⟨i0, hi, hz0, hz1, hz2⟩ := info_parts info32b
  have HI := Lib.hid hi
  have HZ0 := Lib.hid hz0
  have HZ1 := Lib.hid hz1
  have HZ2 := Lib.hid hz2
  obtain ⟨n, hn⟩ : ∃ n, n = l.length := ⟨_, rfl⟩
  rw [← hn] at HR h1 h2 c0'
  have HN := Lib.hid hn
  clear h hlen hi hz0 hz1 hz2 hn hws hvw hmm c0 c1
  go_enter Try.func18, Try.ntmps18
  go_wp2_with (at_builtin; refine wpList_append_own_at _ rfl _ _ 59 rfl 0 44 i0 _ 256 256 Try.underlying59 HI.out HZ0.out HZ1.out HZ2.out (by show (bc zeroB).toArray.size = 256; exact zero_size) (by omega) (.slice (some ⟨w.heap.size, 0, none⟩) 0 0) 0 [] rfl (World.ownsRow_made w #[] 0 (Nat.zero_le _) (by unfold maxLen; omega) rfl) ⟨g, 0, none⟩ n c ((l.map bc).flatten) rfl ?c1 ?c2 (flat_one l) ?c3 ?c4 (Nat.zero_le _) ?_)
  case c1 => rw [HF.out, List.length_map, HN.out]
  case c2 =>
    intro j u hj
    rw [Addr.add_mid, Nat.zero_add]
    have hjl : j < n * 256 := by
      have h1 := (List.getElem?_eq_some_iff.1 hj).1
      rw [HF.out, List.length_map, ← HN.out] at h1
      exact h1
    have h2 := HR.out.2
    rw [List.length_map, ← HN.out] at h2
    rw [h2.cellAt j hjl]
    exact hj
  case c3 => unfold maxLen; omega
  case c4 => omega
  intro v' w' hown hgr hnil hat
  have hrow : Row w' 44 256 v' (l.map bc) := ⟨HR.out.1, by rw [List.length_map, ← HN.out]; exact hown⟩
  obtain ⟨g', cap', rfl, _⟩ := hrow.open_ (by rw [List.length_map, ← HN.out]; omega)
  rw [List.length_map, ← HN.out] at hrow ⊢
  have HRW := Lib.hid hrow
  have HGR := Lib.hid (show Grow w w' from ((Below.refl w.heap.size w).alloc (Nat.le_refl _) _).grown hgr (by simp) (fun k e => by cases e; exact Nat.le_refl _))
  have HAT := Lib.hid (show w.heap.size ≤ g' by
    rcases hat with h | h
    · have e : g' = w.heap.size := Option.some.inj h; omega
    · have e : g' = w.heap.size + 1 := Option.some.inj h; omega)
  clear hown hgr hnil hat hrow c0'
  go_wp2_with fail
  go_loopw [4] (fun t wr => ∃ k : Nat, k ≤ m ∧ t = .int .i64 (k : Int) ∧ Hid (Touch [g'] w' wr) ∧ Hid (Row wr 44 256 (.slice (some ⟨g', 0, none⟩) n cap') ((applyW l (ws.take k)).map bc))) (fun t _ => m - (intOf t).toNat)
  case atStart => exact ⟨0, by omega, rfl, Lib.hid (Touch.refl _ _), HRW⟩
  case round =>
    obtain ⟨k, hk, rfl, HT, HR2⟩ := hrel
    have hp := HP.out
    have hTw := (Touch.of_below (S := [g']) HGR.out).trans HT.out (fun i hi => .inl hi)
    have hnR : R ∉ [g'] := by have := hp.lt R hp.inR; have := HAT.out; simp; omega
    have x1 := (hTw.cell (a := ⟨R, 1, none⟩) (hp.lt R hp.inR) hnR).trans HC1.out
    by_cases hlt : k < m
    · have hkl : k < ws.length := by rw [← HM.out]; exact hlt
      obtain ⟨gw, cw', hv2, hgw, _⟩ := hp.waits.open_ (by rw [List.length_map]; omega)
      rw [List.length_map, ← HM.out] at hv2
      have hv3 : Value.slice ad m cw = .slice (some ⟨gw, 0, none⟩) m cw' := by
        have := HV.out
        rw [List.length_map, ← HM.out] at this
        exact this.symm.trans hv2
      have hown : vw.ownBlock = some gw := by rw [hv2]; rfl
      have hwrow := hp.waits
      rw [hv2] at hwrow
      have hget : (ws.map wc)[k]? = some (wc ws[k]) := by simp [hkl]
      have hrg := hwrow.range hget
      obtain ⟨b, x, hbx⟩ : ∃ b x, ws[k] = (b, x) := ⟨_, _, rfl⟩
      have hbn : b < l.length := HWS.out (b, x) (by rw [← hbx]; exact List.getElem_mem hkl)
      have hxl : x.length = 256 := by
        have h3 := hwrow.1 (wc ws[k]) (List.mem_of_getElem? hget)
        rw [hbx] at h3
        unfold wc at h3
        rw [List.length_cons, bc_length] at h3
        dsimp only at h3
        omega
      rw [hbx] at hrg
      have hnW : gw ∉ [g'] := by have := HAT.out; simp; omega
      rw [hv3] at x1
      have HC2 := Lib.hid x1
      have HLB := Lib.hid (Nat.lt_of_lt_of_le (hp.lt R hp.inR) hTw.size)
      have HLW := Lib.hid (Nat.lt_of_lt_of_le hgw hTw.size)
      have HRG := Lib.hid (range_touch hrg hTw hgw hnW)
      have HBG := Lib.hid hnR
      have HWG := Lib.hid hnW
      have HXl := Lib.hid hxl
      have HBN := Lib.hid (show b < (applyW l (ws.take k)).length by rw [applyW_length]; exact hbn)
      have HSN := Lib.hid (show (applyW l (ws.take (k + 1))) = (applyW l (ws.take k)).set b x by
        rw [List.take_succ_eq_append_getElem hkl, applyW_snoc, hbx])
      have HLL := Lib.hid (show (applyW l (ws.take k)).length = n by rw [applyW_length]; exact HN.out.symm)
      clear hp hv2 hgw hown hwrow hget hrg hbx hbn hxl hnR hnW hTw hv3
      go_upto_region 5 with (fail)
      refine rimage_reg R g' n cap' gw m cw' k b x (applyW l (ws.take k)) wr HC2 HLB HBG HLW HWG HRG HXl hlt HR2 HBN.out HLL.out _ _ _ _ _ _ _ _ _ _ _ _ _ _ _ _ _ _ _ _ _ _ _ _ _ _ _ _ _ _ _ _ _ _ _ _ _ (Lib.hid ?_)
      intro y20 y21 y22 y23 y24 y25 y26 y27 y28 y29 y30 y31 y32 y33 y34 y35 y36 y37 wz ht hrow
      have HT2 := Lib.hid (HT.out.trans ht (fun i hi => .inl hi))
      have HR3 := Lib.hid hrow
      clear ht hrow x1
      go_wp2_with fail
      go_roundw
      case rel => exact ⟨k + 1, by omega, by go_num, HT2, Lib.hid (by rw [HSN.out]; exact HR3.out)⟩
      case measure => simp [intOf]; omega
    · obtain rfl : m = k := by omega
      have hr := HR2.out
      rw [List.take_of_length_le (by rw [HM.out]; exact Nat.le_refl _)] at hr
      have HF2 := Lib.hid hr
      clear hr hp hTw hnR
      go_wp2_with fail
      go_ret
      have hl : (applyW l ws).length = n := by rw [applyW_length]; exact HN.out.symm
      refine ⟨g', cap', by rw [hl]; rfl, by rw [hl]; exact HF2.out, HAT.out, ?_⟩
      exact Below.trans HGR.out (HT.out.below HGR.out.size (by simpa using HAT.out))
#print axioms rimage_ok
end Go.Proofs.Ytieknecbheeekaa
