/- The document's disk: Crash: the walk. -/
import Derived.Test.YtkcbjhdklenlbaaD43
import Derived.Test.YtkcbjhdklenlbaaD38
set_option linter.unusedVariables false
set_option linter.unusedSimpArgs false
namespace Go.Proofs.Ytkcbjhdklenlbaa
open Go.RowKit

theorem kept_take : ∀ (ws : List (Nat × Blk)) (ks : List Bool) (n : Nat), ks.length ≤ n → kept (ws.take n) ks = kept ws ks := by
  intro ws
  induction ws with
  | nil => intro ks n h; simp
  | cons q ws ih =>
    intro ks n h
    cases ks with
    | nil => cases n <;> simp [kept]
    | cons c ks =>
      obtain ⟨n', rfl⟩ : ∃ n', n = n' + 1 := ⟨n - 1, by simp at h; omega⟩
      simp only [List.take_succ_cons, kept]
      rw [ih ks n' (by simp at h; omega)]
theorem kept_more (ws : List (Nat × Blk)) (ks : List Bool) (k : Nat) (h : ks.length ≤ k) : kept (ws.take (k + 1)) (ks.take (k + 1)) = kept (ws.take k) (ks.take k) := by
  have e1 : ks.take (k + 1) = ks := List.take_of_length_le (by omega)
  have e2 : ks.take k = ks := List.take_of_length_le h
  rw [e1, e2, kept_take ws ks (k + 1) (by omega), kept_take ws ks k h]
theorem kept_end : ∀ (ws : List (Nat × Blk)) (ks : List Bool), kept ws (ks.take ws.length) = kept ws ks := by
  intro ws
  induction ws with
  | nil => intro ks; simp [kept]
  | cons q ws ih =>
    intro ks
    cases ks with
    | nil => rfl
    | cons c ks =>
      simp only [List.length_cons, List.take_succ_cons, kept]
      rw [ih ks]
theorem RDk.rowed {w wz : World} {R : Nat} {T : List Nat} {l : List Blk} {ws : List (Nat × Blk)} {a f : Int} {g c : Nat} {vw : Value} (h : RDk w R T l ws a f g c vw) (ht : Touch [g] w wz) {l' : List Blk} (hl : l'.length = l.length) (hr : Row wz 32 256 (.slice (some ⟨g, 0, none⟩) l.length c) (l'.map bc)) : RDk wz R T l' ws a f g c vw :=
  { obj := by rw [hl]; exact (ht.block R (h.lt R h.inR) (by simpa using h.rg)).trans h.obj
    row := by rw [hl]; exact hr
    waits := h.waits.kept ht (fun k e => by simpa using (h.bw k e).2)
    one := by rw [hl]; exact h.one
    most := by rw [hl]; exact h.most
    inR := h.inR
    inG := h.inG
    inW := h.inW
    rg := h.rg
    bw := h.bw
    lt := fun k hk => Nat.lt_of_lt_of_le (h.lt k hk) ht.size }
set_option maxRecDepth 100000 in
set_option maxHeartbeats 2000000 in
theorem rcrash_ok {w : World} {R : Nat} {T : List Nat} {d : DS} (h : IsRef w R T d) (vk : Value) (ks : List Bool) (hks : Bools w T vk ks) (hkl : ks.length ≤ 9223372036854775807) (hws : ∀ p ∈ d.ws, p.1 < d.safe.length) (hm : d.ws.length ≤ 1000000) :
    Calls Try.prog 41 #[.pointer (some ⟨R, 0, none⟩), vk] w fun e w' => (∃ v, e = .returned v) ∧ IsRef w' R T (d.crashed ks) ∧ Touch T w w' := by
  have HWS := Lib.hid hws
  obtain ⟨ka, kcap, rfl, hkc⟩ := hks
  have HKC := Lib.hid hkc
  obtain ⟨g, c, vw, h⟩ := h
  have HP := Lib.hid h
  obtain ⟨ad, cw, hvw⟩ := h.waits.len
  have hc1 := h.cells.2.1
  rw [hvw, List.length_map] at hc1
  obtain ⟨m, hmm⟩ : ∃ m, m = d.ws.length := ⟨_, rfl⟩
  rw [← hmm] at hc1 hm
  have HC1 := Lib.hid hc1
  obtain ⟨q, hq⟩ : ∃ q, q = ks.length := ⟨_, rfl⟩
  rw [← hq] at hkl ⊢
  have HV := Lib.hid hvw
  have HM := Lib.hid hmm
  have HQ := Lib.hid hq
  clear h hws hvw hmm hq hkc hc1
  go_enter Try.func41, Try.ntmps41
  go_wp2_with fail
  go_loopw [4] (fun t wr => ∃ k : Nat, k ≤ m ∧ t = .int .i64 (k : Int) ∧ Hid (Touch [g] w wr) ∧ Hid (Row wr 32 256 (.slice (some ⟨g, 0, none⟩) d.safe.length c) ((applyW d.safe (kept (d.ws.take k) (ks.take k))).map bc))) (fun t _ => m - (intOf t).toNat)
  case atStart => exact ⟨0, by omega, rfl, Lib.hid (Touch.refl _ _), Lib.hid HP.out.row⟩
  case round =>
    obtain ⟨k, hk, rfl, HT, HR⟩ := hrel
    have hp := HP.out
    have hnR : R ∉ [g] := by simpa using hp.rg
    have x1 := (HT.out.cell (a := ⟨R, 1, none⟩) (hp.lt R hp.inR) hnR).trans HC1.out
    by_cases hlt : k < m
    · have hkl2 : k < d.ws.length := by rw [← HM.out]; exact hlt
      by_cases hkq : k < q
      · have hkq2 : k < ks.length := by rw [← HQ.out]; exact hkq
        obtain ⟨gw, cw', hv2, hgw, _⟩ := hp.waits.open_ (by rw [List.length_map]; omega)
        rw [List.length_map, ← HM.out] at hv2
        have hv3 : Value.slice ad m cw = .slice (some ⟨gw, 0, none⟩) m cw' := by
          have := HV.out
          rw [List.length_map, ← HM.out] at this
          exact this.symm.trans hv2
        have hown : vw.ownBlock = some gw := by rw [hv2]; rfl
        have hwrow := hp.waits
        rw [hv2] at hwrow
        have hget : (d.ws.map wc)[k]? = some (wc d.ws[k]) := by simp [hkl2]
        have hrg := hwrow.range hget
        obtain ⟨b, x, hbx⟩ : ∃ b x, d.ws[k] = (b, x) := ⟨_, _, rfl⟩
        obtain ⟨kk, hkk⟩ : ∃ kk, ks[k]? = some kk := ⟨ks[k], by simp [hkq2]⟩
        obtain ⟨ky, rfl, hkb, hkS, hkcell⟩ := HKC.out k kk hkk
        have hbn : b < d.safe.length := HWS.out (b, x) (by rw [← hbx]; exact List.getElem_mem hkl2)
        have hxl : x.length = 256 := by
          have h3 := hwrow.1 (wc d.ws[k]) (List.mem_of_getElem? hget)
          rw [hbx] at h3
          unfold wc at h3
          rw [List.length_cons, bc_length] at h3
          dsimp only at h3
          omega
        rw [hbx] at hrg
        have hnW : gw ∉ [g] := by simpa using (hp.bw gw hown).2
        have hnK : ky.block ∉ [g] := by
          intro hc; rw [List.mem_singleton.1 hc] at hkS; exact hkS hp.inG
        have hkc2 := (HT.out.cell (a := ky.add k) (by rw [add_block]; exact hkb) (by rw [add_block]; exact hnK)).trans hkcell
        rw [hv3] at x1
        have HC0 := Lib.hid ((HT.out.cell (a := ⟨R, 0, none⟩) (hp.lt R hp.inR) hnR).trans hp.cells.1)
        have HC2 := Lib.hid x1
        have HLB := Lib.hid (Nat.lt_of_lt_of_le (hp.lt R hp.inR) HT.out.size)
        have HLW := Lib.hid (Nat.lt_of_lt_of_le hgw HT.out.size)
        have HRW := Lib.hid (range_touch hrg HT.out hgw hnW)
        have HBG := Lib.hid hnR
        have HWG := Lib.hid hnW
        have HXl := Lib.hid hxl
        have HBN := Lib.hid (show b < (applyW d.safe (kept (d.ws.take k) (ks.take k))).length by rw [applyW_length]; exact hbn)
        have HSN := Lib.hid (kept_snoc d.ws ks k (b, x) kk (by rw [← hbx]; simp [hkl2]) hkk)
        have b0 : (0 : Int) ≤ (k : Int) := by omega
        have b1 : (k : Int) < (q : Int) := by omega
        have d1 : decide ((k : Int) < (q : Int)) = true := by simp; omega
        clear hp hv2 hgw hown hwrow hget hrg hbx hbn hxl hnR hnW hkcell hnK hkS hkb hkk hkl2 hkq2 hv3
        cases kk
        · go_wp2_with fail
          go_roundw
          case rel => exact ⟨k + 1, by omega, by go_num, HT, Lib.hid (by rw [HSN.out]; simpa using HR.out)⟩
          case measure => simp [intOf]; omega
        · go_upto_region 4 with (fail)
          refine rcrash_reg R g d.safe.length c gw m cw' k b x (applyW d.safe (kept (d.ws.take k) (ks.take k))) wr HC0 HC2 HLB HBG HLW HWG HRW HXl hlt HR HBN.out (applyW_length _ _) _ _ _ _ _ _ _ _ _ _ _ _ _ _ _ _ _ _ _ _ _ _ _ _ _ _ _ _ _ _ _ _ _ _ _ _ _ _ _ _ _ _ _ _ _ _ _ _ _ _ (Lib.hid ?_)
          intro y24 y25 y26 y27 y28 y29 y30 y31 y32 y33 y34 y35 y36 y37 y38 y39 y40 y41 y42 y43 y44 wz ht hrow
          have HT2 := Lib.hid (HT.out.trans ht (fun i hi => .inl hi))
          have HR2 := Lib.hid hrow
          clear ht hrow
          go_wp2_with fail
          go_roundw
          case rel => exact ⟨k + 1, by omega, by go_num, HT2, Lib.hid (by rw [HSN.out, if_pos rfl, applyW_snoc]; exact HR2.out)⟩
          case measure => simp [intOf]; omega
      · have d1 : decide ((k : Int) < (q : Int)) = false := by simp; omega
        have HSN := Lib.hid (kept_more d.ws ks k (by rw [← HQ.out]; omega))
        clear hp hnR
        go_wp2_with fail
        go_roundw
        case rel => exact ⟨k + 1, by omega, by go_num, HT, Lib.hid (by rw [HSN.out]; exact HR.out)⟩
        case measure => simp [intOf]; omega
    · obtain rfl : m = k := by omega
      have hr := HR.out
      rw [HM.out, List.take_length, kept_end] at hr
      have h1 := hp.rowed HT.out (applyW_length _ _) hr
      have h2 := h1.noW
      have h3 := h2.setF (-1)
      have H3 := Lib.hid h3
      have e1 := h1.cells.2.1
      have f1 := h1.free 1
      have e3 := h2.cells.2.2.2
      have f3 := h2.free 3
      rw [HV.out, List.length_map, ← HM.out] at e1
      clear hr h1 h2 h3 hp hnR x1
      go_wp2_with fail
      go_end0
      have hp := HP.out
      refine ⟨⟨_, rfl⟩, ⟨g, c, .slice none 0 0, H3.out⟩, ?_⟩
      refine ((HT.out.mono (S' := T) (by intro k hk; rw [List.mem_singleton.1 hk]; exact .inl hp.inG)).trans (Touch.setCell (S := [R]) _ (by simp) _) ?_).trans (Touch.setCell (S := [R]) _ (by simp) _) ?_
      · intro k hk; rw [List.mem_singleton.1 hk]; exact .inl hp.inR
      · intro k hk; rw [List.mem_singleton.1 hk]; exact .inl hp.inR
#print axioms rcrash_ok
end Go.Proofs.Ytkcbjhdklenlbaa
