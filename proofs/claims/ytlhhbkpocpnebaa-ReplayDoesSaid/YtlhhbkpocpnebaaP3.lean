/- replay.Over: the walk. -/
import Derived.Test.YtlhhbkpocpnebaaP1
import Derived.Test.YtlhhbkpocpnebaaD10
set_option linter.unusedVariables false
set_option linter.unusedSimpArgs false
namespace Go.Proofs.Ytlhhbkpocpnebaa
open Go.RowKit Go.Maps

/-- a row of blocks -/
def BRow (w : World) (v : Value) (l : List Blk) : Prop := Row w 29 256 v (l.map bc)
theorem BRow.len {w : World} {v : Value} {l : List Blk} (h : BRow w v l) : ∃ a cap, v = .slice a l.length cap := by
  obtain ⟨a, cap, hv⟩ := Row.len h
  rw [List.length_map] at hv
  exact ⟨a, cap, hv⟩
theorem CRow.len {w : World} {v : Value} {l : List Cp} (h : CRow w v l) : ∃ a cap, v = .slice a l.length cap := by
  obtain ⟨a, cap, hv⟩ := Row.len h
  rw [List.length_map] at hv
  exact ⟨a, cap, hv⟩
theorem IRow.len {w : World} {v : Value} {l : List Int} (h : IRow w v l) : ∃ a cap, v = .slice a l.length cap := by
  obtain ⟨a, cap, hv⟩ := Row.len h
  rw [List.length_map] at hv
  exact ⟨a, cap, hv⟩
theorem BRow.grow {w w' : World} {v : Value} {l : List Blk} (h : BRow w v l) (hg : Grow w w') : BRow w' v l := Row.kept h (Touch.of_below (S := []) hg) (by simp)
theorem BRow.blk {w : World} {v : Value} {l : List Blk} (h : BRow w v l) {x : Blk} (hx : x ∈ l) : x.length = 256 := by
  have := h.1 _ (List.mem_map_of_mem hx)
  rwa [bc_length] at this
theorem CRow.blk {w : World} {v : Value} {l : List Cp} (h : CRow w v l) {x : Cp} (hx : x ∈ l) : x.2.length = 256 := by
  have := h.1 _ (List.mem_map_of_mem hx)
  unfold ccell at this
  rw [List.length_cons, bc_length] at this
  omega
theorem BRow.open_ {w : World} {v : Value} {l : List Blk} (h : BRow w v l) (hl : 0 < l.length) : ∃ g cap, v = .slice (some ⟨g, 0, none⟩) l.length cap ∧ g < w.heap.size := by
  obtain ⟨g, cap, hv, hg, _⟩ := Row.open_ h (by rw [List.length_map]; exact hl)
  rw [List.length_map] at hv
  exact ⟨g, cap, hv, hg⟩
theorem BRow.range {w : World} {g n cap : Nat} {l : List Blk} (h : BRow w (.slice (some ⟨g, 0, none⟩) n cap) l) {k : Nat} {x : Blk} (hk : l[k]? = some x) : w.rangeAt g (k * 256) (bc x) := Row.range h (by rw [List.getElem?_map, hk]; rfl)
/-- copies over an image -/
def putB (l : List Blk) (c : Cp) : List Blk := if 0 ≤ c.1 ∧ c.1 < l.length then l.set c.1.toNat c.2 else l
def overB (l : List Blk) (cs : List Cp) : List Blk := cs.foldl putB l
theorem putB_length (l : List Blk) (c : Cp) : (putB l c).length = l.length := by unfold putB; split <;> simp
theorem overB_length (cs : List Cp) : ∀ l, (overB l cs).length = l.length := by
  induction cs with
  | nil => intro l; rfl
  | cons c cs ih => intro l; show (overB (putB l c) cs).length = _; rw [ih, putB_length]
theorem overB_take {l : List Blk} {cs : List Cp} {k : Nat} {c : Cp} (h : cs[k]? = some c) : overB l (cs.take (k + 1)) = putB (overB l (cs.take k)) c := by
  unfold overB; rw [List.take_add_one, h, List.foldl_append]; rfl
theorem copy_run {w : World} {gd n cd : Nat} {vs : Value} {l l' : List Blk} (hd : BRow w (.slice (some ⟨gd, 0, none⟩) n cd) l) (hs : BRow w vs l') (hl : l.length = n) (hl' : l'.length = n) (ty : TypeId) :
    (Builtin.copy_ #[27, 27] ty #[.slice (some ⟨gd, 0, none⟩) n cd, vs]).run Try.prog w = .ok (goInt n) (w.setCells gd 0 (l'.map bc).flatten) := by
  by_cases h0 : n = 0
  · subst h0
    have h1 : l' = [] := List.eq_nil_of_length_eq_zero hl'
    subst h1
    obtain ⟨a, cap, rfl⟩ := hs.len
    obtain ⟨i0, hi, hz0, hz1, hz2⟩ := info_parts info32b
    have hload := run_loadCells_list (P := Try.prog) w ⟨gd, 0, none⟩ [] (fun j v hv => by simp at hv)
    simp only [List.length_nil] at hload
    cases a with
    | none => simp [Builtin.copy_, run_underlying Try.underlying27, Builtin.lenOf, Builtin.firstCells, sizeOf, typeInfo, hi, hz1, World.setCells, storeCells]
    | some ad =>
      have hload := run_loadCells_list (P := Try.prog) w ad [] (fun j v hv => by simp at hv)
      simp only [List.length_nil] at hload
      have hstore := run_storeCells_cells (P := Try.prog) gd 0 [] 0 w (fun j hj => by simp at hj) (fun j hj => by simp at hj) (by simp)
      simp only [Nat.add_zero] at hstore
      simp [Builtin.copy_, run_underlying Try.underlying27, Builtin.lenOf, Builtin.firstCells, sizeOf, typeInfo, hi, hz1, World.setCells, hload, hstore]
  · obtain ⟨gs, cs, rfl, _⟩ := hs.open_ (by omega)
    rw [hl'] at hs ⊢
    have hlen : (l'.map bc).flatten.length = n * 256 := by rw [flatten_length 256 _ hs.1, List.length_map, hl']
    have hld : (l.map bc).flatten.length = n * 256 := by rw [flatten_length 256 _ hd.1, List.length_map, hl]
    have hd2 := hd.2
    have hs2 := hs.2
    rw [List.length_map, hl] at hd2
    rw [List.length_map, hl'] at hs2
    have hload := run_loadCells_list (P := Try.prog) w ⟨gs, 0, none⟩ (l'.map bc).flatten (fun j v hv => by
      rw [Addr.add_mid, Nat.zero_add, hs2.cellAt j (by rw [← hlen]; exact (List.getElem?_eq_some_iff.1 hv).1)]; exact hv)
    have hstore := run_storeCells_cells (P := Try.prog) gd 0 (l'.map bc).flatten 0 w (fun j hj => by
      rw [hlen] at hj
      rw [show 0 + 0 + j = j by omega, hd2.cellAt j hj, List.getElem?_eq_getElem (by rw [hld]; exact hj)]; rfl) (fun j hj => hd2.frozenAt _) (flat_one l')
    obtain ⟨i0, hi, hz0, hz1, hz2⟩ := info_parts info32b
    rw [hlen] at hload
    simp only [Nat.add_zero] at hstore
    simp [Builtin.copy_, run_underlying Try.underlying27, Builtin.lenOf, Builtin.firstCells, sizeOf, typeInfo, hi, hz1, Nat.min_self, hload, hstore]
theorem copied {w : World} {gd n cd : Nat} {l l' : List Blk} (hd : BRow w (.slice (some ⟨gd, 0, none⟩) n cd) l) (hs : ∀ x ∈ l', x.length = 256) (hl : l.length = n) (hl' : l'.length = n) :
    BRow (w.setCells gd 0 (l'.map bc).flatten) (.slice (some ⟨gd, 0, none⟩) n cd) l' := by
  have hs1 : ∀ c ∈ l'.map bc, c.length = 256 := by intro c hc; obtain ⟨x, hx, rfl⟩ := List.mem_map.1 hc; rw [bc_length]; exact hs x hx
  have hlen : (l'.map bc).flatten.length = n * 256 := by rw [flatten_length 256 _ hs1, List.length_map, hl']
  have hld : (l.map bc).flatten.length = n * 256 := by rw [flatten_length 256 _ hd.1, List.length_map, hl]
  have hd2 := hd.2
  rw [List.length_map, hl] at hd2
  have h3 := own_setCells (l'.map bc).flatten 0 w _ hd2
  rw [setMany_all _ _ (by rw [hlen, hld])] at h3
  exact ⟨hs1, by rw [List.length_map, hl']; exact h3⟩
theorem wpList_copy_rows {w : World} {ops : Array Oper} {rest : List Oper} {o : Oper} {a : Act} {Q : Exit → Act → World → Prop} (hgd : o.guard = none) (d s : Operand)
    (ho : o.op = .call { callee := .builtin .copy, args := #[d, s], argTypes := #[27, 27] }) (gd n cd : Nat) (vs : Value) (l l' : List Blk) (hd : a.eval d = .slice (some ⟨gd, 0, none⟩) n cd) (hs : a.eval s = vs)
    (hrd : BRow w (.slice (some ⟨gd, 0, none⟩) n cd) l) (hrs : BRow w vs l') (hl : l.length = n) (hl' : l'.length = n)
    (h : ∀ w', BRow w' (.slice (some ⟨gd, 0, none⟩) n cd) l' → Touch [gd] w w' → wpList Try.prog ops Q rest (a.put o.dst (goInt n)) w') : wpList Try.prog ops Q (o :: rest) a w := by
  refine wpList_plain hgd fun K hK => ?_
  unfold Oper.wp
  have hrun : (execOp a.eval o).run Try.prog w = .ok (.value (goInt n)) (w.setCells gd 0 (l'.map bc).flatten) := by
    unfold execOp
    simp only [ho, resolve, invoke, builtin, Sem.run_bind, Sem.run_pure, Result.andThen_ok, List.map_toArray, List.map_cons, List.map_nil, hd, hs, copy_run hrd hrs hl hl']
  rw [hrun]
  exact hK _ _ (h _ (copied hrd (fun x hx => hrs.blk hx) hl hl') (touch_setCells (by simp) _ _ _))
/-- a round -/
structure BInv (w : World) (gd : Nat) (v : Value) (l : List Blk) (wr : World) : Prop where
  row : BRow wr v l
  grow : Grow w wr
  lo : w.heap.size ≤ gd
def OverPost (l : List Blk) (w : World) (e : Ending) (w' : World) : Prop := ∃ v, e = .returned v ∧ BRow w' v l ∧ Grow w w' ∧ ∀ g, v.ownBlock = some g → w.heap.size ≤ g
theorem BInv.stored {w : World} {gd n cap : Nat} {l : List Blk} {wr : World} (h : BInv w gd (.slice (some ⟨gd, 0, none⟩) n cap) l wr) {c : Cp} (hc : c.2.length = 256) (b : Nat) (hb : c.1 = b) (hlt : b < l.length) : BInv w gd (.slice (some ⟨gd, 0, none⟩) n cap) (putB l c) (wr.setCells gd (b * 256) (bc c.2)) where
  row := by
    have h1 := Row.store h.row (i := b) (c := bc c.2) (by rw [bc_length, hc]) (by rw [List.length_map]; exact hlt)
    unfold putB
    rw [if_pos ⟨by omega, by omega⟩, show c.1.toNat = b by omega]
    unfold BRow
    rw [List.map_set]
    exact h1
  grow := Below.trans h.grow ((touch_setCells (S := [gd]) (by simp) _ _ _).below h.grow.size (fun j hj => by rw [List.mem_singleton.1 hj]; exact h.lo))
  lo := h.lo
theorem bsizeL {x : Blk} (hx : x.length = 256) : (Try.prog.info? 29).map (·.size) = some (bc x).length := by rw [bc_length, hx]; exact size32
theorem bsize {x : Blk} (hx : x.length = 256) : (Try.prog.info? 29).map (·.size) = some (bc x).toArray.size := by rw [List.size_toArray, bc_length, hx]; exact size32
set_option maxRecDepth 100000 in
set_option maxHeartbeats 4000000 in
theorem over_ok {w : World} {v vc : Value} {l : List Blk} {cs : List Cp} (h : BRow w v l) (hc : CRow w vc cs) (hl : l.length ≤ 4096) (hcs : cs.length ≤ 1000000) (hok : ∀ c ∈ cs, IntOk c.1) : Calls Try.prog 15 #[v, vc] w (OverPost (overB l cs) w) := by
  have HB := Lib.hid h
  have HC := Lib.hid hc
  have HOK := Lib.hid hok
  obtain ⟨n, hn⟩ : ∃ n, n = l.length := ⟨_, rfl⟩
  obtain ⟨m, hm⟩ : ∃ m, m = cs.length := ⟨_, rfl⟩
  have HN := Lib.hid hn
  have HM := Lib.hid hm
  obtain ⟨a, cap, hv⟩ := h.len
  obtain ⟨ac, capc, hvc⟩ := hc.len
  rw [← hn] at hv hl
  rw [← hm] at hvc hcs
  subst hv hvc
  obtain ⟨M, hM, hmk⟩ := mk_run n hl
  have HR0 := Lib.hid (show BRow (w.alloc (.cells M 29)) (.slice (some ⟨w.heap.size, 0, none⟩) n n) (List.replicate n zeroB) from row_new hl hM (heap_alloc_last w _))
  have HRS := Lib.hid (HB.out.grow (Grow.alloc w (.cells M 29)))
  clear h hc hok hn hm hM
  go_enter Try.func15, Try.ntmps15
  obtain ⟨w1, hw1⟩ : ∃ w1, w1 = (w.alloc (.cells M 29)).setCells w.heap.size 0 (l.map bc).flatten := ⟨_, rfl⟩
  have hcp := copy_run HR0.out HRS.out (by simp) HN.out.symm 3
  rw [← hw1] at hcp
  have HW1 := Lib.hid hw1
  clear hw1
  go_wp2
  have HI0 := Lib.hid (show BInv w w.heap.size (.slice (some ⟨w.heap.size, 0, none⟩) n n) (overB l (cs.take 0)) w1 from ⟨by rw [HW1.out]; exact copied HR0.out (fun x hx => HB.out.blk hx) (by simp) HN.out.symm, by rw [HW1.out]; exact Below.trans (Grow.alloc w _) ((touch_setCells (S := [w.heap.size]) (by simp) _ _ _).below (by simp) (fun j hj => by rw [List.mem_singleton.1 hj]; exact Nat.le_refl _)), Nat.le_refl _⟩)
  clear hcp hmk
  go_loopw [16] (fun t16 wr => ∃ k : Nat, t16 = .int .i64 (k : Int) ∧ k ≤ m ∧ Hid (BInv w w.heap.size (.slice (some ⟨w.heap.size, 0, none⟩) n n) (overB l (cs.take k)) wr)) (fun t16 _ => m - (intOf t16).toNat)
  case atStart => exact ⟨0, by go_num, by omega, HI0⟩
  case round =>
    obtain ⟨k, rfl, hkm, HI⟩ := hrel
    by_cases hk : k < m
    · obtain ⟨c, hck⟩ : ∃ c, cs[k]? = some c := ⟨cs[k]'(by rw [← HM.out]; exact hk), by simp⟩
      have hrow := HC.out.grow HI.out.grow
      obtain ⟨gc, cc, hvg, _⟩ := hrow.open_ (by rw [← HM.out]; omega)
      rw [← HM.out] at hvg
      cases hvg
      have hrg := hrow.range hck
      have hcell : wr.cell? ⟨gc, k * 257, none⟩ = some (.int .i64 c.1) := hrg 0 _ rfl
      have hc2 := HC.out.blk (List.mem_of_getElem? hck)
      have HRD := Lib.hid (show wr.rangeAt gc (k * 257 + 1) (bc c.2) from fun j u hj => by have := hrg (j + 1) u hj; rw [show k * 257 + (j + 1) = k * 257 + 1 + j by omega] at this; exact this)
      have HIO := Lib.hid (HOK.out c (List.mem_of_getElem? hck))
      have HCK := Lib.hid hck
      have HC2 := Lib.hid hc2
      have HLN := Lib.hid (show (overB l (cs.take k)).length = n by rw [overB_length]; exact HN.out.symm)
      clear hck hrow hrg hc2
      by_cases h0 : c.1 < 0
      · have HI2 := Lib.hid (show BInv w w.heap.size (.slice (some ⟨w.heap.size, 0, none⟩) n n) (overB l (cs.take (k + 1))) wr by rw [overB_take HCK.out]; unfold putB; rw [if_neg (by omega)]; exact HI.out)
        generalize c.1 = b at *
        have d0 : decide ((0 : Int) ≤ b) = false := by simp; omega
        go_wp2
        go_roundw
        case rel => exact ⟨k + 1, by go_num, by omega, HI2⟩
        case measure => simp [intOf]; omega
      · by_cases h1 : c.1 < n
        · obtain ⟨b, hb⟩ : ∃ b : Nat, c.1 = (b : Int) := ⟨c.1.toNat, by omega⟩
          have hbn : b < n := by omega
          have HI2 := Lib.hid (show BInv w w.heap.size (.slice (some ⟨w.heap.size, 0, none⟩) n n) (overB l (cs.take (k + 1))) (wr.setCells w.heap.size (b * 256) (bc c.2)) by rw [overB_take HCK.out]; exact HI.out.stored HC2.out b hb (by rw [HLN.out]; exact hbn))
          have HTH := Lib.hid (show wr.there w.heap.size (b * 256) (bc c.2).toArray.size by rw [show (bc c.2).toArray.size = 256 by rw [List.size_toArray, bc_length, HC2.out]]; exact Row.there HI.out.row (by rw [List.length_map, HLN.out]; exact hbn))
          rw [hb] at hcell
          have d0 : decide ((0 : Int) ≤ (b : Int)) = true := by simp
          have d1 : decide ((b : Int) < (n : Int)) = true := by simp; omega
          clear h0 h1 hb
          go_wp2_with (first | (refine wpList_load_mid rfl 29 _ rfl gc (k * 257 + 1) rfl (bc c.2) _ HRD.out Try.underlying29 rfl (bsizeL HC2.out) ?_) | (refine wpList_store_mid rfl 29 _ _ rfl w.heap.size (b * 256) (bc c.2).toArray rfl rfl HTH.out (bsize HC2.out) (all_oneCell_toArray (bc_one _)) ?_))
          go_roundw
          case rel => exact ⟨k + 1, by go_num, by omega, HI2⟩
          case measure => simp [intOf]; omega
        · have HI2 := Lib.hid (show BInv w w.heap.size (.slice (some ⟨w.heap.size, 0, none⟩) n n) (overB l (cs.take (k + 1))) wr by rw [overB_take HCK.out]; unfold putB; rw [if_neg (by rw [HLN.out]; omega)]; exact HI.out)
          generalize c.1 = b at *
          have d0 : decide ((0 : Int) ≤ b) = true := by simp; omega
          have d1 : decide (b < (n : Int)) = false := by simp; omega
          go_wp2
          go_roundw
          case rel => exact ⟨k + 1, by go_num, by omega, HI2⟩
          case measure => simp [intOf]; omega
    · obtain rfl : k = m := by omega
      have HR := Lib.hid (show BRow wr (.slice (some ⟨w.heap.size, 0, none⟩) n n) (overB l cs) by have := HI.out.row; rwa [HM.out, List.take_length] at this)
      have HG := Lib.hid HI.out.grow
      have HV := Lib.hid (show ∀ g, (Value.slice (some ⟨w.heap.size, 0, none⟩) n n).ownBlock = some g → w.heap.size ≤ g from fun g e => Nat.le_of_eq (Option.some.inj e))
      go_wp2
      go_ret
      exact ⟨_, rfl, HR.out, HG.out, HV.out⟩
#print axioms over_ok
end Go.Proofs.Ytlhhbkpocpnebaa
