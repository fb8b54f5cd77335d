/- Disk.Crash: the walk. -/
import Derived.Test.YtkcbjhdklenlbaaD15
set_option linter.unusedVariables false
set_option linter.unusedSimpArgs false
namespace Go.Proofs.Ytkcbjhdklenlbaa
open Go.RowKit

theorem add_block (a : Addr) (n : Nat) : (a.add n).block = a.block := by unfold Addr.add; split <;> rfl
/-- flags that came in, apart from S -/
def Bools (w : World) (S : List Nat) (v : Value) (ks : List Bool) : Prop := ∃ a cap, v = .slice a ks.length cap ∧ ∀ i x, ks[i]? = some x → ∃ y : Addr, a = some y ∧ y.block < w.heap.size ∧ y.block ∉ S ∧ w.cell? (y.add i) = some (.bool x)
theorem Bools.nil (w : World) (S : List Nat) : Bools w S (.slice none 0 0) [] := ⟨none, 0, rfl, fun i x h => by simp at h⟩
/-- the writes that come through -/
def kept : List (Nat × Blk) → List Bool → List (Nat × Blk)
  | p :: ws, k :: ks => if k then p :: kept ws ks else kept ws ks
  | _, _ => []
theorem kept_snoc : ∀ (ws : List (Nat × Blk)) (ks : List Bool) (i : Nat) (p : Nat × Blk) (k : Bool), ws[i]? = some p → ks[i]? = some k → kept (ws.take (i + 1)) (ks.take (i + 1)) = kept (ws.take i) (ks.take i) ++ (if k then [p] else []) := by
  intro ws
  induction ws with
  | nil => intro ks i p k h; simp at h
  | cons q ws ih =>
    intro ks i p k hp hk
    cases ks with
    | nil => simp at hk
    | cons c ks =>
      cases i with
      | zero =>
        obtain rfl : q = p := by simpa using hp
        obtain rfl : c = k := by simpa using hk
        cases c <;> simp [kept]
      | succ i =>
        simp only [List.take_succ_cons, kept]
        rw [ih ks i p k (by simpa using hp) (by simpa using hk)]
        cases c <;> simp
theorem kept_all : ∀ (ws : List (Nat × Blk)) (ks : List Bool) (n : Nat), n = min ws.length ks.length → kept (ws.take n) (ks.take n) = kept ws ks := by
  intro ws
  induction ws with
  | nil => intro ks n h; simp [kept]
  | cons q ws ih =>
    intro ks n h
    cases ks with
    | nil => have : n = 0 := by simpa using h
             subst this; simp [kept]
    | cons c ks =>
      obtain ⟨n', rfl⟩ : ∃ n', n = n' + 1 := ⟨n - 1, by simp at h; omega⟩
      simp only [List.take_succ_cons, kept]
      rw [ih ks n' (by simp at h; omega)]
theorem Parts.lasted {w wz : World} {B : Nat} {S : List Nat} {d : DS} {gs cs gl cl : Nat} {vw : Value} (h : Parts w B S d gs cs gl cl vw) (ht : Touch [gl] w wz) (l : List Blk) (hl : l.length = d.safe.length)
    (hr : Row wz 32 256 (.slice (some ⟨gl, 0, none⟩) d.safe.length cl) (l.map bc)) : Parts wz B S { d with last := l } gs cs gl cl vw :=
  { obj := (ht.block B (h.lt B h.inB) (by simpa using h.bl)).trans h.obj
    safe := h.safe.kept ht (fun g e => by cases e; simpa using h.sl)
    last := hr
    waits := h.waits.kept ht (fun g e => by simpa using (h.bw g e).2.2)
    len := hl
    one := h.one
    most := h.most
    inB := h.inB
    inS := h.inS
    inL := h.inL
    inW := h.inW
    bs := h.bs
    bl := h.bl
    sl := h.sl
    bw := h.bw
    lt := fun k hk => Nat.lt_of_lt_of_le (h.lt k hk) ht.size }
def DS.crashed (d : DS) (ks : List Bool) : DS := { d with safe := applyW d.safe (kept d.ws ks), last := applyW d.safe (kept d.ws ks), ws := [], set := false, left := 0 }
set_option maxRecDepth 100000 in
set_option maxHeartbeats 2000000 in
theorem crash_ok {w : World} {B : Nat} {S : List Nat} {d : DS} (h : IsDisk w B S d) (vk : Value) (ks : List Bool) (hks : Bools w S vk ks) (hkl : ks.length ≤ 9223372036854775807) (hws : ∀ p ∈ d.ws, p.1 < d.safe.length) (hm : d.ws.length ≤ 1000000) :
    Calls Try.prog 25 #[.pointer (some ⟨B, 0, none⟩), vk] w fun e w' => (∃ v, e = .returned v) ∧ IsDisk w' B S (d.crashed ks) ∧ Touch S w w' := by
  have HD := Lib.hid h
  have HWS := Lib.hid hws
  obtain ⟨ka, kcap, rfl, hkc⟩ := hks
  have HKC := Lib.hid hkc
  obtain ⟨gs, cs, gl, cl, vw, h⟩ := h
  have HP := Lib.hid h
  obtain ⟨ad, cw, hvw⟩ := h.waits.len
  obtain ⟨_, _, c2, _⟩ := h.cells
  rw [hvw, List.length_map] at c2
  obtain ⟨m, hmm⟩ : ∃ m, m = d.ws.length := ⟨_, rfl⟩
  rw [← hmm] at c2 hm
  obtain ⟨q, hq⟩ : ∃ q, q = ks.length := ⟨_, rfl⟩
  rw [← hq] at hkl ⊢
  obtain ⟨r, hr⟩ : ∃ r : Nat, r = min m q := ⟨_, rfl⟩
  have hrm : r ≤ m := by omega
  have hrq : r ≤ q := by omega
  have HV := Lib.hid hvw
  have HM := Lib.hid hmm
  have HQ := Lib.hid hq
  have HRR := Lib.hid hr
  clear h hws hvw hmm hq hkc
  go_enter Try.func25, Try.ntmps25
  go_wp2_with fail
  refine (made_yes HD.out).mono ?_
  rintro e w' ⟨rfl, rfl⟩
  go_wp2_with fail
  case' inl => rw [show (q : Int) = (r : Int) by omega]
  case' inr => rw [show (m : Int) = (r : Int) by omega]
  all_goals
    clear c2 hr
    go_loopw [16] (fun t wr => ∃ k : Nat, k ≤ r ∧ t = .int .i64 (k : Int) ∧ Hid (Touch [gs] w wr) ∧ Hid (Row wr 32 256 (.slice (some ⟨gs, 0, none⟩) d.safe.length cs) ((applyW d.safe (kept (d.ws.take k) (ks.take k))).map bc))) (fun t _ => r - (intOf t).toNat)
    case atStart => exact ⟨0, by omega, rfl, Lib.hid (Touch.refl _ _), Lib.hid HP.out.safe⟩
    case round =>
      obtain ⟨k, hk, rfl, HT, HR⟩ := hrel
      by_cases hlt : k < r
      · have hkl : k < d.ws.length := by rw [← HM.out]; omega
        have hkq : k < ks.length := by rw [← HQ.out]; omega
        have hp := HP.out
        obtain ⟨gw, cw', hv2, hgw, _⟩ := hp.waits.open_ (by rw [List.length_map]; omega)
        rw [List.length_map, ← HM.out] at hv2
        have hown : vw.ownBlock = some gw := by rw [hv2]; rfl
        have hc0 := hp.cells.1
        have hc2 := hp.cells.2.2.1
        have hwrow := hp.waits
        rw [hv2] at hc2 hwrow
        have hget : (d.ws.map wc)[k]? = some (wc d.ws[k]) := by simp [hkl]
        have hrg := hwrow.range hget
        obtain ⟨b, x, hbx⟩ : ∃ b x, d.ws[k] = (b, x) := ⟨_, _, rfl⟩
        obtain ⟨kk, hkk⟩ : ∃ kk, ks[k]? = some kk := ⟨ks[k], by simp [hkq]⟩
        obtain ⟨ky, rfl, hkb, hkS, hkcell⟩ := HKC.out k kk hkk
        have hbn : b < d.safe.length := HWS.out (b, x) (by rw [← hbx]; exact List.getElem_mem hkl)
        have hxl : x.length = 256 := by
          have h3 := hwrow.1 (wc d.ws[k]) (List.mem_of_getElem? hget)
          rw [hbx] at h3
          unfold wc at h3
          rw [List.length_cons, bc_length] at h3
          dsimp only at h3
          omega
        rw [hbx] at hrg
        have hnB : B ∉ [gs] := by simpa using hp.bs
        have hnW : gw ∉ [gs] := by simpa using (hp.bw gw hown).2.1
        have hnK : ky.block ∉ [gs] := by
          intro hc; rw [List.mem_singleton.1 hc] at hkS; exact hkS hp.inS
        have hkc2 := (HT.out.cell (a := ky.add k) (by rw [add_block]; exact hkb) (by rw [add_block]; exact hnK)).trans hkcell
        have HC0 := Lib.hid ((HT.out.cell (a := ⟨B, 0, none⟩) (hp.lt B hp.inB) hnB).trans hc0)
        have HC2 := Lib.hid ((HT.out.cell (a := ⟨B, 2, none⟩) (hp.lt B hp.inB) hnB).trans hc2)
        have HLB := Lib.hid (Nat.lt_of_lt_of_le (hp.lt B hp.inB) HT.out.size)
        have HLW := Lib.hid (Nat.lt_of_lt_of_le hgw HT.out.size)
        have HRW := Lib.hid (range_touch hrg HT.out hgw hnW)
        have HBG := Lib.hid hnB
        have HWG := Lib.hid hnW
        have HXl := Lib.hid hxl
        have HBN := Lib.hid (show b < (applyW d.safe (kept (d.ws.take k) (ks.take k))).length by rw [applyW_length]; exact hbn)
        have HSN := Lib.hid (kept_snoc d.ws ks k (b, x) kk (by rw [← hbx]; simp [hkl]) hkk)
        have hkm : k < m := by omega
        have hkqq : k < q := by omega
        clear hp hv2 hgw hown hc0 hc2 hwrow hget hrg hbx hbn hxl hnB hnW hkcell hnK hkS hkb hkk hkl hkq
        cases kk
        · go_wp2_with fail
          go_roundw
          case rel => exact ⟨k + 1, by omega, by go_num, HT, Lib.hid (by rw [HSN.out]; simpa using HR.out)⟩
          case measure => simp [intOf]; omega
        · go_upto_region 5 with (fail)
          refine crash_reg B gs d.safe.length cs gw m cw' k b x (applyW d.safe (kept (d.ws.take k) (ks.take k))) wr HC0 HC2 HLB HBG HLW HWG HRW HXl hkm HR HBN.out (applyW_length _ _) _ _ _ _ _ _ _ _ _ _ _ _ _ _ _ _ _ _ _ _ _ _ _ _ _ _ _ _ _ _ _ _ _ _ _ _ _ _ _ _ _ _ _ _ _ _ _ _ _ _ _ _ _ _ _ _ _ _ _ _ _ _ (Lib.hid ?_)
          intro y23 y24 y25 y26 y27 y28 y29 y30 y31 y32 y33 y34 y35 y36 y37 y38 y39 y40 y41 y42 y43 wz ht hrow
          have HT2 := Lib.hid (HT.out.trans ht (fun i hi => .inl hi))
          have HR2 := Lib.hid hrow
          clear ht hrow
          go_wp2_with fail
          go_roundw
          case rel => exact ⟨k + 1, by omega, by go_num, HT2, Lib.hid (by rw [HSN.out, if_pos rfl, applyW_snoc]; exact HR2.out)⟩
          case measure => simp [intOf]; omega
      · obtain rfl : r = k := by omega
        have hr := HR.out
        rw [kept_all d.ws ks r (by rw [← HM.out, ← HQ.out]; exact HRR.out)] at hr
        have h1 := HP.out.safed HT.out (applyW d.safe (kept d.ws ks)) (applyW_length _ _) hr
        have H1 := Lib.hid h1
        have HLN := Lib.hid (show (applyW d.safe (kept d.ws ks)).length = d.safe.length from applyW_length _ _)
        have hc0 := h1.cells.1
        have hc1 := h1.cells.2.1
        have hla := h1.last
        have hsa := h1.safe
        dsimp only at hc0 hc1 hla hsa
        rw [HLN.out] at hc0 hc1 hla hsa
        have HC0 := Lib.hid hc0
        have HC1 := Lib.hid hc1
        have HLA := Lib.hid hla
        have HSA := Lib.hid hsa
        have HLB := Lib.hid (h1.lt B h1.inB)
        have HBG := Lib.hid (show B ∉ [gl] by simpa using h1.bl)
        have HLL := Lib.hid (show d.last.length = d.safe.length from HP.out.len)
        clear hr h1 hc0 hc1 hla hsa
        go_upto_region 7 with (fail)
        refine copy_reg B gs gl d.safe.length cs cl d.last (applyW d.safe (kept d.ws ks)) wr HC0 HC1 HLB HBG HLA HSA HLL HLN _ _ _ _ _ _ _ _ _ _ _ _ _ _ _ _ _ _ _ _ _ _ _ _ _ _ _ _ _ _ _ _ _ _ _ _ _ _ _ _ _ _ _ _ _ _ _ _ _ _ _ _ _ _ _ _ _ _ _ _ _ _ _ (Lib.hid ?_)
        intro z45 z46 z47 z48 z49 z50 z51 z52 z53 wz ht hrow
        have h2 := H1.out.lasted ht (applyW d.safe (kept d.ws ks)) rfl (by dsimp only; rw [HLN.out]; exact hrow)
        have h3 := h2.emptied
        have h4 := h3.put 4 (.bool false) d.acts false d.left rfl
        have h5 := h4.put 5 (.int .i64 0) d.acts false 0 rfl
        have HT3 := Lib.hid ht
        have H5 := Lib.hid h5
        have e2 := h2.cells.2.2.1
        have f2 := h2.free 2
        have e4 := h3.cells.2.2.2.2.1
        have f4 := h3.free 4
        have e5 := h4.cells.2.2.2.2.2
        have f5 := h4.free 5
        dsimp only at e2 e4 e5
        rw [HV.out] at e2
        clear h2 h3 h4 h5 ht hrow
        go_wp2_with fail
        go_end0
        have hp := HP.out
        refine ⟨⟨_, rfl⟩, ⟨gs, cs, gl, cl, _, H5.out⟩, ?_⟩
        have hB : ∀ k ∈ [B], k ∈ S ∨ False := fun k hk => by rw [List.mem_singleton.1 hk]; exact .inl hp.inB
        refine ((((HT.out.mono (S' := S) (by intro k hk; rw [List.mem_singleton.1 hk]; exact .inl hp.inS)).trans HT3.out ?_).trans (Touch.setCell (S := [B]) _ (by simp) _) ?_).trans (Touch.setCell (S := [B]) _ (by simp) _) ?_).trans (Touch.setCell (S := [B]) _ (by simp) _) ?_
        · intro k hk; rw [List.mem_singleton.1 hk]; exact .inl hp.inL
        · intro k hk; rw [List.mem_singleton.1 hk]; exact .inl hp.inB
        · intro k hk; rw [List.mem_singleton.1 hk]; exact .inl hp.inB
        · intro k hk; rw [List.mem_singleton.1 hk]; exact .inl hp.inB
#print axioms crash_ok
end Go.Proofs.Ytkcbjhdklenlbaa
