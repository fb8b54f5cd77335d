/- Disk.Flush: the walk. -/
import Derived.Test.YtieknecbheeekaaD12
set_option linter.unusedVariables false
set_option linter.unusedSimpArgs false
namespace Go.Proofs.Ytieknecbheeekaa
open Go.RowKit

def applyW (l : List Blk) (ws : List (Nat × Blk)) : List Blk := ws.foldl (fun l p => l.set p.1 p.2) l
theorem applyW_length (ws : List (Nat × Blk)) : ∀ l, (applyW l ws).length = l.length := by
  induction ws with
  | nil => intro l; rfl
  | cons p ws ih => intro l; show (applyW (l.set p.1 p.2) ws).length = _; rw [ih]; simp
theorem applyW_snoc (l : List Blk) (ws : List (Nat × Blk)) (p : Nat × Blk) : applyW l (ws ++ [p]) = (applyW l ws).set p.1 p.2 := by
  unfold applyW; rw [List.foldl_append]; rfl
theorem Parts.safed {w wz : World} {B : Nat} {S : List Nat} {d : DS} {gs cs gl cl : Nat} {vw : Value} (h : Parts w B S d gs cs gl cl vw) (ht : Touch [gs] w wz) (l : List Blk) (hl : l.length = d.safe.length)
    (hr : Row wz 44 256 (.slice (some ⟨gs, 0, none⟩) d.safe.length cs) (l.map bc)) : Parts wz B S { d with safe := l } gs cs gl cl vw :=
  { obj := by rw [hl]; exact (ht.block B (h.lt B h.inB) (by simpa using h.bs)).trans h.obj
    safe := by rw [hl]; exact hr
    last := by rw [hl]; exact h.last.kept ht (fun g e => by cases e; simpa using fun e => h.sl e.symm)
    waits := h.waits.kept ht (fun g e => by simpa using (h.bw g e).2.1)
    len := by rw [hl]; exact h.len
    one := by rw [hl]; exact h.one
    most := by rw [hl]; exact h.most
    inB := h.inB
    inS := h.inS
    inL := h.inL
    inW := h.inW
    bs := h.bs
    bl := h.bl
    sl := h.sl
    bw := h.bw
    lt := fun k hk => Nat.lt_of_lt_of_le (h.lt k hk) ht.size }
theorem Parts.emptied {w : World} {B : Nat} {S : List Nat} {d : DS} {gs cs gl cl : Nat} {vw : Value} (h : Parts w B S d gs cs gl cl vw) : Parts (w.setCell ⟨B, 2, none⟩ (.slice none 0 0)) B S { d with ws := [] } gs cs gl cl (.slice none 0 0) := by
  have ht : Touch [B] w (w.setCell ⟨B, 2, none⟩ (.slice none 0 0)) := Touch.setCell w (by simp) _
  exact
  { obj := by rw [heap_set h.obj 2 _]; rfl
    safe := h.safe.kept ht (fun g e => by cases e; simpa using fun c => h.bs c.symm)
    last := h.last.kept ht (fun g e => by cases e; simpa using fun c => h.bl c.symm)
    waits := ⟨fun c hc => (by cases hc), World.ownsRow_nil _ _ _ _⟩
    len := h.len
    one := h.one
    most := h.most
    inB := h.inB
    inS := h.inS
    inL := h.inL
    inW := fun g hg => by cases hg
    bs := h.bs
    bl := h.bl
    sl := h.sl
    bw := fun g hg => by cases hg
    lt := fun k hk => by simpa using h.lt k hk }
def DS.flushed (d : DS) : DS := DS.acted { d with safe := applyW d.safe d.ws, ws := [] }
set_option maxRecDepth 100000 in
set_option maxHeartbeats 2000000 in
theorem flush_ok {w : World} {B : Nat} {S : List Nat} {d : DS} (h : IsDisk w B S d) (hd : d.dead = false) (hws : ∀ p ∈ d.ws, p.1 < d.safe.length) (hm : d.ws.length ≤ 1000000) (ha : 0 ≤ d.acts ∧ d.acts ≤ 1000000) (hl : 0 ≤ d.left ∧ d.left ≤ 9223372036854775807) :
    Calls Try.prog 43 #[.pointer (some ⟨B, 0, none⟩)] w fun e w' => e = .returned (.int .i64 0) ∧ IsDisk w' B S d.flushed ∧ Touch S w w' := by
  have HD := Lib.hid h
  have HX := Lib.hid hd
  have HA := Lib.hid ha
  have HL := Lib.hid hl
  have HWS := Lib.hid hws
  obtain ⟨gs, cs, gl, cl, vw, h⟩ := h
  have HP := Lib.hid h
  obtain ⟨ad, cw, hvw⟩ := h.waits.len
  obtain ⟨_, _, c2, _⟩ := h.cells
  rw [hvw, List.length_map] at c2
  obtain ⟨m, hmm⟩ : ∃ m, m = d.ws.length := ⟨_, rfl⟩
  rw [← hmm] at c2 hm
  have HV := Lib.hid hvw
  have HM := Lib.hid hmm
  clear h hd ha hl hws hvw hmm
  go_enter Try.func43, Try.ntmps43
  go_wp2_with fail
  refine (refuse_ok HD.out HX.out).mono ?_
  rintro e w' ⟨rfl, rfl⟩
  go_wp2_with fail
  clear c2
  go_loopw [15] (fun t wr => ∃ k : Nat, k ≤ m ∧ t = .int .i64 (k : Int) ∧ Hid (Touch [gs] w wr) ∧ Hid (Row wr 44 256 (.slice (some ⟨gs, 0, none⟩) d.safe.length cs) ((applyW d.safe (d.ws.take k)).map bc))) (fun t _ => m - (intOf t).toNat)
  case atStart => exact ⟨0, by omega, rfl, Lib.hid (Touch.refl _ _), Lib.hid HP.out.safe⟩
  case round =>
    obtain ⟨k, hk, rfl, HT, HR⟩ := hrel
    by_cases hlt : k < m
    · have hkl : k < d.ws.length := by rw [← HM.out]; exact hlt
      have hp := HP.out
      obtain ⟨gw, cw', hv2, hgw, _⟩ := hp.waits.open_ (by rw [List.length_map]; omega)
      rw [List.length_map, ← HM.out] at hv2
      have hown : vw.ownBlock = some gw := by rw [hv2]; rfl
      have hc0 := hp.cells.1
      have hc2 := hp.cells.2.2.1
      have hwrow := hp.waits
      rw [hv2] at hc2 hwrow
      have hget : (d.ws.map wc)[k]? = some (wc d.ws[k]) := by simp [hkl]
      have hrg := hwrow.range hget
      obtain ⟨b, x, hbx⟩ : ∃ b x, d.ws[k] = (b, x) := ⟨_, _, rfl⟩
      have hbn : b < d.safe.length := HWS.out (b, x) (by rw [← hbx]; exact List.getElem_mem hkl)
      have hxl : x.length = 256 := by
        have h3 := hwrow.1 (wc d.ws[k]) (List.mem_of_getElem? hget)
        rw [hbx] at h3
        unfold wc at h3
        rw [List.length_cons, bc_length] at h3
        dsimp only at h3
        omega
      rw [hbx] at hrg
      have hnB : B ∉ [gs] := by simpa using hp.bs
      have hnW : gw ∉ [gs] := by simpa using (hp.bw gw hown).2.1
      have HC0 := Lib.hid ((HT.out.cell (a := ⟨B, 0, none⟩) (hp.lt B hp.inB) hnB).trans hc0)
      have HC2 := Lib.hid ((HT.out.cell (a := ⟨B, 2, none⟩) (hp.lt B hp.inB) hnB).trans hc2)
      have HLB := Lib.hid (Nat.lt_of_lt_of_le (hp.lt B hp.inB) HT.out.size)
      have HLW := Lib.hid (Nat.lt_of_lt_of_le hgw HT.out.size)
      have HRW := Lib.hid (range_touch hrg HT.out hgw hnW)
      have HBG := Lib.hid hnB
      have HWG := Lib.hid hnW
      have HXl := Lib.hid hxl
      have HBN := Lib.hid (show b < (applyW d.safe (d.ws.take k)).length by rw [applyW_length]; exact hbn)
      have HSN := Lib.hid (show (applyW d.safe (d.ws.take (k + 1))) = (applyW d.safe (d.ws.take k)).set b x by
        rw [List.take_succ_eq_append_getElem hkl, applyW_snoc, hbx])
      clear hp hv2 hgw hown hc0 hc2 hwrow hget hrg hbx hbn hxl hnB hnW
      go_upto_region 7 with (fail)
      refine flush_reg B gs d.safe.length cs gw m cw' k b x (applyW d.safe (d.ws.take k)) wr HC0 HC2 HLB HBG HLW HWG HRW HXl hlt HR HBN.out (applyW_length _ _) _ _ _ _ _ _ _ _ _ _ _ _ _ _ _ _ _ _ _ _ _ _ _ _ _ _ _ _ _ _ _ _ _ _ _ _ _ _ _ _ _ _ _ _ (Lib.hid ?_)
      intro y18 y19 y20 y21 y22 y23 y24 y25 y26 y27 y28 y29 y30 y31 y32 y33 y34 y35 y36 y37 y38 wz ht hrow
      have HT2 := Lib.hid (HT.out.trans ht (fun i hi => .inl hi))
      have HR2 := Lib.hid hrow
      clear ht hrow
      go_wp2_with fail
      go_roundw
      case rel => exact ⟨k + 1, by omega, by go_num, HT2, Lib.hid (by rw [HSN.out]; exact HR2.out)⟩
      case measure => simp [intOf]; omega
    · obtain rfl : m = k := by omega
      have hr := HR.out
      rw [List.take_of_length_le (by rw [HM.out]; exact Nat.le_refl _)] at hr
      have h1 := HP.out.safed HT.out (applyW d.safe d.ws) (applyW_length _ _) hr
      have H2 := Lib.hid h1.emptied
      have e2 := h1.cells.2.2.1
      have f2 := h1.free 2
      have HV2 := HV
      rw [HV2.out] at e2
      clear hr h1 HV2
      go_wp2_with fail
      refine (act_any H2.out HA.out HL.out).mono ?_
      rintro e w6 ⟨⟨ve, rfl⟩, h6, ht6⟩
      have HP6 := Lib.hid h6
      have HT6 := Lib.hid ht6
      clear h6 ht6 e2 f2
      go_wp2_with fail
      go_ret
      have hp := HP.out
      refine ⟨rfl, ⟨gs, cs, gl, cl, _, HP6.out⟩, ?_⟩
      refine ((HT.out.mono (S' := S) (by intro k hk; rw [List.mem_singleton.1 hk]; exact .inl hp.inS)).trans (Touch.setCell (S := [B]) _ (by simp) _) ?_).trans HT6.out ?_
      · intro k hk; rw [List.mem_singleton.1 hk]; exact .inl hp.inB
      · intro k hk; rw [List.mem_singleton.1 hk]; exact .inl hp.inB
#print axioms flush_ok
end Go.Proofs.Ytieknecbheeekaa
