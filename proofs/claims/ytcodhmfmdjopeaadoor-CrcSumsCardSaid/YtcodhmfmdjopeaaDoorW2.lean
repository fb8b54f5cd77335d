/- What crc.Sum computes: the walk. -/
import Derived.Test.YtcodhmfmdjopeaaDoorW1
import Derived.Lib.SlBytesConst
namespace Go.Proofs.YtcodhmfmdjopeaaDoor
open Go.RowKit
open CrcPlain (sh shn tm steps one step run)

/-- a slice that reads as bytes -/
def Bytes (w : World) (A : Option Addr) (n : Nat) (bs : List Nat) : Prop :=
  bs.length = n ∧ (∀ x ∈ bs, x < 256) ∧ (0 < n → ∃ ad, A = some ad ∧ ∀ j, j < n → w.cell? (ad.add j) = some (.int .u8 ((bs.getD j 0 : Nat) : Int)))
/-- a piece: where it lies, its length, its room, its bytes -/
structure Piece where
  A : Option Addr
  n : Nat
  c : Nat
  bs : List Nat
def Piece.val (p : Piece) : Value := .slice p.A p.n p.c
def Piece.ok (w : World) (p : Piece) : Prop := Bytes w p.A p.n p.bs
def none_ : Piece := ⟨none, 0, 0, []⟩
/-- a slice of pieces -/
def Pieces (w : World) (A : Option Addr) (n : Nat) (ps : List Piece) : Prop :=
  ps.length = n ∧ (∀ p ∈ ps, p.ok w) ∧ (0 < n → ∃ ad, A = some ad ∧ ∀ j, j < n → w.cell? (ad.add j) = some (ps.getD j none_).val)
def all (ps : List Piece) : List Nat := ps.flatMap Piece.bs
/-- the table lies where it should -/
def Tab (w : World) : Prop := ∀ i, i < 16 → w.cell? ⟨0, i, none⟩ = some (.int .u32 ((steps.getD i 0 : Nat) : Int))

/-- four shifts by the table, in the walk's own words -/
theorem quarter (u : BitVec 32) : ∃ k s : Nat, k < 16 ∧ s < 4294967296 ∧ bits .and .u32 (u.toNat : Int) 15 = (k : Int) ∧ steps.getD k 0 = s ∧
    bits .xor .u32 ((u.toNat : Int) / 16) (s : Int) = ((shn 4 u).toNat : Int) := by
  have h := b_and u 15#32
  rw [show ((15#32).toNat : Int) = 15 from rfl] at h
  have hk : (u &&& 15#32).toNat < 16 := by
    rw [BitVec.toNat_and]
    show u.toNat &&& 15 < 16
    have := Nat.and_le_right (n := u.toNat) (m := 15)
    omega
  have e : BitVec.ofNat 32 (u &&& 15#32).toNat = u &&& 15#32 := by simp
  refine ⟨(u &&& 15#32).toNat, (shn 4 (u &&& 15#32)).toNat, hk, lt32 _, h, ?_, ?_⟩
  · rw [CrcPlain.steps_eq _ hk, e]
  · rw [b_shr4, b_xor, ← CrcPlain.shn4]

theorem take_snoc {α : Type} (l : List α) (k : Nat) (d : α) (h : k < l.length) : l.take (k + 1) = l.take k ++ [l.getD k d] := by
  rw [List.take_succ_eq_append_getElem h, List.getD_eq_getElem?_getD, List.getElem?_eq_getElem h]; rfl

set_option maxHeartbeats 1000000 in
theorem sum_any (A : Option Addr) (n c : Nat) (ps : List Piece) (w : World) (ht : Tab w) (hp : Pieces w A n ps) (hn : n ≤ 9223372036854775807) (hb : ∀ p ∈ ps, p.n ≤ 9223372036854775807) :
    Calls Tryd.prog 11 #[.slice A n c] w fun e w' => e = .returned (V (CrcPlain.sum (all ps))) ∧ w = w' := by
  have HT := Lib.hid ht
  have HP := Lib.hid hp
  clear ht hp
  go_enter Tryd.func11, Tryd.ntmps11
  go_wp2_with fail
  go_loop [3, 10] (fun tv ti => ∃ k : Nat, k ≤ n ∧ ti = .int .i64 (k : Int) ∧ tv = V (run (~~~ 0#32) (all (ps.take k)))) (fun _ i => n - (intOf i).toNat)
  case atStart => exact ⟨0, by omega, rfl, rfl⟩
  case round =>
    obtain ⟨k, hk, rfl, rfl⟩ := hrel
    by_cases hlt : k < n
    · obtain ⟨ad, rfl, hc⟩ := HP.out.2.2 (by omega)
      have hcell := hc k hlt
      have HC := Lib.hid hc
      clear hc
      have hmem : ps.getD k none_ ∈ ps := by
        have hl : k < ps.length := by rw [HP.out.1]; exact hlt
        rw [List.getD_eq_getElem?_getD, List.getElem?_eq_getElem hl]; exact List.getElem_mem hl
      have HQ := Lib.hid (HP.out.2.1 _ hmem)
      have hpn := hb _ hmem
      have Hmem := Lib.hid hmem
      clear hmem
      generalize hpk : ps.getD k none_ = p at *
      obtain ⟨pA, pn, pc, bs⟩ := p
      have Hpk := Lib.hid hpk
      clear hpk
      unfold Piece.val at hcell
      dsimp only at hcell hpn
      generalize hv : run (~~~ 0#32) (all (ps.take k)) = v0 at *
      have HV := Lib.hid hv
      clear hv
      unfold V
      go_wp2_with fail
      go_loop [3, 16] (fun tv ti => ∃ j : Nat, j ≤ pn ∧ ti = .int .i64 (j : Int) ∧ tv = V (run v0 (bs.take j))) (fun _ i => pn - (intOf i).toNat)
      case atStart => exact ⟨0, by omega, rfl, rfl⟩
      case round =>
        obtain ⟨j, hj, rfl, rfl⟩ := hrel
        by_cases hjl : j < pn
        · obtain ⟨hlen, hsm, hcs⟩ := HQ.out
          obtain ⟨bd, rfl, hc⟩ := hcs (by dsimp only; omega)
          dsimp only at hlen hsm hc
          have hx := hc j hjl
          have hxl : bs.getD j 0 < 256 := by
            have hl : j < bs.length := by rw [hlen]; exact hjl
            rw [List.getD_eq_getElem?_getD, List.getElem?_eq_getElem hl]; exact hsm _ (List.getElem_mem hl)
          have HS := Lib.hid (take_snoc bs j 0 (by rw [hlen]; exact hjl))
          clear hlen hsm hcs hc
          generalize hxe : bs.getD j 0 = x at *
          generalize hv : run v0 (bs.take j) = v at *
          have HX := Lib.hid hxe
          have HW := Lib.hid hv
          clear hxe hv
          have e0 := b_xor v (BitVec.ofNat 32 x)
          rw [show ((BitVec.ofNat 32 x).toNat : Int) = (x : Int) by simp; omega] at e0
          obtain ⟨k1, s1, hk1, hs1, ea, et, eb⟩ := quarter (v ^^^ BitVec.ofNat 32 x)
          have ec := HT.out k1 hk1
          rw [et] at ec
          obtain ⟨k2, s2, hk2, hs2, fa, ft, fb⟩ := quarter (shn 4 (v ^^^ BitVec.ofNat 32 x))
          have fc := HT.out k2 hk2
          rw [ft] at fc
          clear et ft
          rw [← CrcPlain.shn_add] at fb
          generalize hu : v ^^^ BitVec.ofNat 32 x = u at *
          generalize hu1 : shn 4 u = u1 at *
          generalize hu2 : shn (4 + 4) u = u2 at *
          have HU := Lib.hid hu
          have HU1 := Lib.hid hu1
          have HU2 := Lib.hid hu2
          clear hu hu1 hu2
          unfold V
          go_wp2_with fail
          go_round
          case rel =>
            refine ⟨j + 1, by omega, by go_num, ?_⟩
            rw [HS.out, CrcPlain.run_append, HW.out]
            show _ = V (shn 8 (v ^^^ BitVec.ofNat 32 x))
            rw [HU.out, ← HU2.out]
            rfl
          case measure => simp only [intOf]; omega
        · obtain rfl : j = pn := by omega
          have HE := Lib.hid (show bs.take j = bs from List.take_of_length_le (by have := HQ.out.1; dsimp only at this; omega))
          unfold V
          go_wp2_with fail
          go_round
          case rel =>
            refine ⟨k + 1, by omega, by go_num, ?_⟩
            have hsn := take_snoc ps k none_ (by rw [HP.out.1]; exact hlt)
            rw [Hpk.out] at hsn
            rw [hsn, HE.out, ← HV.out]
            show V (run (run _ _) _) = V (run _ (List.flatMap Piece.bs (List.take k ps ++ [_])))
            rw [List.flatMap_append, CrcPlain.run_append]
            simp only [List.flatMap_cons, List.flatMap_nil, List.append_nil]
            rfl
          case measure => simp only [intOf]; omega
    · obtain rfl : k = n := by omega
      have HE := Lib.hid (show ps.take k = ps from List.take_of_length_le (by rw [HP.out.1]; omega))
      unfold V
      go_wp2_with fail
      go_ret
      refine ⟨ret_int ?_, rfl⟩
      rw [HE.out]
      unfold CrcPlain.sum
      rw [show IntKind.u32.max = ((4294967295#32).toNat : Int) from rfl, b_xor, CrcPlain.not_eq, BitVec.xor_comm]
      rfl


/-- whatever cell there was is there still -/
def Ext (w w' : World) : Prop := ∀ a v, w.cell? a = some v → w'.cell? a = some v
theorem Ext.refl (w : World) : Ext w w := fun _ _ h => h
theorem Ext.trans {a b c : World} (h : Ext a b) (h' : Ext b c) : Ext a c := fun p v hv => h' p v (h p v hv)
theorem Ext.alloc (w : World) (o : Obj) : Ext w (w.alloc o) := fun _ _ h => Lib.cell?_alloc_marked o h
theorem Ext.below {w w' : World} (h : Below w.heap.size w w') : Ext w w' := fun a v hv => by
  rcases Nat.lt_or_ge a.block w.heap.size with hl | hl
  · exact (h.cell hl).trans hv
  · simp [World.cell?, Array.getElem?_eq_none hl] at hv
theorem Bytes.ext {w w' : World} {A : Option Addr} {n : Nat} {bs : List Nat} (h : Bytes w A n bs) (he : Ext w w') : Bytes w' A n bs :=
  ⟨h.1, h.2.1, fun hn => let ⟨ad, ha, hc⟩ := h.2.2 hn; ⟨ad, ha, fun j hj => he _ _ (hc j hj)⟩⟩
theorem Pieces.ext {w w' : World} {A : Option Addr} {n : Nat} {ps : List Piece} (h : Pieces w A n ps) (he : Ext w w') : Pieces w' A n ps :=
  ⟨h.1, fun p hp => Bytes.ext (h.2.1 p hp) he, fun hn => let ⟨ad, ha, hc⟩ := h.2.2 hn; ⟨ad, ha, fun j hj => he _ _ (hc j hj)⟩⟩
theorem Tab.ext {w w' : World} (h : Tab w) (he : Ext w w') : Tab w' := fun i hi => he _ _ (h i hi)
theorem Tab.lt {w : World} (h : Tab w) : 0 < w.heap.size := by
  have := h 0 (by omega)
  rcases Nat.lt_or_ge 0 w.heap.size with hlt | hge
  · exact hlt
  · simp [World.cell?, Array.getElem?_eq_none hge] at this
theorem cell_new (w : World) (cs : Array Value) (t : TypeId) (fz : Nat × Nat) (i : Nat) : (w.alloc (.cells cs t fz)).cell? ⟨w.heap.size, i, none⟩ = cs[i]? := by
  have : (w.alloc (.cells cs t fz)).heap[w.heap.size]? = some (.cells cs t fz) := by
    show (w.heap.push (.cells cs t fz))[w.heap.size]? = _
    simp
  simp only [World.cell?, this]
  rfl
theorem add_zero_off (b j : Nat) : (⟨b, 0, none⟩ : Addr).add j = ⟨b, j, none⟩ := by
  unfold Addr.add
  split <;> simp_all
/-- pieces that were just laid in a row -/
theorem pieces_new (w : World) (ps : List Piece) (t : TypeId) (fz : Nat × Nat) (h : ∀ p ∈ ps, p.ok w) : Pieces (w.alloc (.cells (ps.map Piece.val).toArray t fz)) (some ⟨w.heap.size, 0, none⟩) ps.length ps := by
  refine ⟨rfl, fun p hp => (h p hp).ext (Ext.alloc _ _), fun _ => ⟨_, rfl, fun j hj => ?_⟩⟩
  rw [add_zero_off, cell_new]
  simp [hj]
theorem bytes_new (w : World) (bs : List Nat) (t : TypeId) (fz : Nat × Nat) (h : ∀ x ∈ bs, x < 256) : Bytes (w.alloc (.cells (bs.map fun x => Value.int .u8 ((x : Nat) : Int)).toArray t fz)) (some ⟨w.heap.size, 0, none⟩) bs.length bs := by
  refine ⟨rfl, h, fun _ => ⟨_, rfl, fun j hj => ?_⟩⟩
  rw [add_zero_off, cell_new]
  simp [hj]
theorem none_ok (w : World) : none_.ok w := ⟨rfl, by simp [none_], by simp [none_]⟩

theorem sum_at (A : Option Addr) (n c : Nat) (ps : List Piece) (w : World) (r : Int) (ht : Tab w) (hp : Pieces w A n ps) (hn : n ≤ 9223372036854775807) (hb : ∀ p ∈ ps, p.n ≤ 9223372036854775807)
    (hr : ((CrcPlain.sum (all ps)).toNat : Int) = r) :
    Calls Tryd.prog 11 #[.slice A n c] w fun e w' => e = .returned (.int .u32 r) ∧ w = w' :=
  (sum_any A n c ps w ht hp hn hb).mono fun _ _ ⟨he, hw⟩ => ⟨by rw [he, ← hr]; rfl, hw⟩

theorem join_at (x y z r : Int) (a b : BitVec 32) (n : Nat) (hn : n ≤ 9223372036854775807) (w : World) (hx : (a.toNat : Int) = x) (hy : (b.toNat : Int) = y) (hz : (n : Int) = z)
    (hr : ((CrcPlain.join a b n).toNat : Int) = r) :
    Calls Tryd.prog 16 #[.int .u32 x, .int .u32 y, .int .i64 z] w fun e w' => e = .returned (.int .u32 r) ∧ w = w' := by
  subst hx hy hz hr
  exact join_any a b n hn w
theorem join_at_neg (x y z : Int) (a b : BitVec 32) (hn : z < 0) (w : World) (hx : (a.toNat : Int) = x) (hy : (b.toNat : Int) = y) :
    Calls Tryd.prog 16 #[.int .u32 x, .int .u32 y, .int .i64 z] w fun e w' => e = .returned (.int .u32 0) ∧ w = w' := by
  subst hx hy
  exact join_neg a b z hn w

def p1 (w : World) : Piece := ⟨some ⟨w.heap.size, 0, none⟩, 1, 1, [97]⟩
def p4 (w : World) : Piece := ⟨some ⟨w.heap.size, 0, none⟩, 4, 4, [49, 50, 51, 52]⟩
def p5 (w : World) : Piece := ⟨some ⟨w.heap.size + 1, 0, none⟩, 5, 5, [53, 54, 55, 56, 57]⟩
theorem aw1 (w : World) (h : Tab w) : ∃ W : World, Tab W ∧ Below w.heap.size w W ∧ Pieces W (some ⟨w.heap.size + 1, 0, none⟩) 1 [p1 w] ∧
    W = (w.alloc (Obj.cells #[Value.int IntKind.u8 97] 5 (1, 2))).alloc (Obj.cells #[Value.slice (some { block := w.heap.size, off := 0 }) 1 1] 24) := by
  refine ⟨_, h.ext ((Ext.alloc _ _).trans (Ext.alloc _ _)), ((Below.refl _ _).alloc (Nat.le_refl _) _).alloc (by simp) _, ?_, rfl⟩
  have q : (p1 w).ok (w.alloc (Obj.cells #[Value.int IntKind.u8 97] 5 (1, 2))) := bytes_new w [97] 5 (1, 2) (by decide)
  have r := pieces_new (w.alloc (Obj.cells #[Value.int IntKind.u8 97] 5 (1, 2))) [p1 w] 24 (0, 0) (by intro p hp; obtain rfl := List.mem_singleton.1 hp; exact q)
  simpa [p1, Piece.val] using r
theorem aw2 (w : World) (h : Tab w) : ∃ W : World, Tab W ∧ Below w.heap.size w W ∧ Pieces W (some ⟨w.heap.size + 2, 0, none⟩) 3 [p4 w, none_, p5 w] ∧
    W = ((w.alloc (Obj.cells #[Value.int IntKind.u8 49, Value.int IntKind.u8 50, Value.int IntKind.u8 51, Value.int IntKind.u8 52] 5 (4, 5))).alloc
      (Obj.cells #[Value.int IntKind.u8 53, Value.int IntKind.u8 54, Value.int IntKind.u8 55, Value.int IntKind.u8 56, Value.int IntKind.u8 57] 5 (5, 6))).alloc
      (Obj.cells #[Value.slice (some { block := w.heap.size, off := 0 }) 4 4, Value.slice none 0 0, Value.slice (some { block := w.heap.size + 1, off := 0 }) 5 5] 24) := by
  refine ⟨_, h.ext (((Ext.alloc _ _).trans (Ext.alloc _ _)).trans (Ext.alloc _ _)), (((Below.refl _ _).alloc (Nat.le_refl _) _).alloc (by simp) _).alloc (by simp; omega) _, ?_, rfl⟩
  have q4 : (p4 w).ok (w.alloc (Obj.cells #[Value.int IntKind.u8 49, Value.int IntKind.u8 50, Value.int IntKind.u8 51, Value.int IntKind.u8 52] 5 (4, 5))) := bytes_new w [49, 50, 51, 52] 5 (4, 5) (by decide)
  have q5 := bytes_new (w.alloc (Obj.cells #[Value.int IntKind.u8 49, Value.int IntKind.u8 50, Value.int IntKind.u8 51, Value.int IntKind.u8 52] 5 (4, 5))) [53, 54, 55, 56, 57] 5 (5, 6) (by decide)
  have r := pieces_new ((w.alloc (Obj.cells #[Value.int IntKind.u8 49, Value.int IntKind.u8 50, Value.int IntKind.u8 51, Value.int IntKind.u8 52] 5 (4, 5))).alloc
      (Obj.cells #[Value.int IntKind.u8 53, Value.int IntKind.u8 54, Value.int IntKind.u8 55, Value.int IntKind.u8 56, Value.int IntKind.u8 57] 5 (5, 6))) [p4 w, none_, p5 w] 24 (0, 0) (by
    intro p hp
    simp only [List.mem_cons, List.not_mem_nil, or_false] at hp
    rcases hp with rfl | rfl | rfl
    · exact q4.ext (Ext.alloc _ _)
    · exact none_ok _
    · simpa [p5, Piece.ok] using q5)
  simpa [p4, p5, none_, Piece.val] using r

set_option maxHeartbeats 1000000 in
theorem awake_any (w : World) (ht : Tab w) :
    Calls Tryd.prog 15 #[] w fun e w' => e = .returned (.bool true) ∧ Below w.heap.size w w' := by
  obtain ⟨W1, t1, b1, r1, hW1⟩ := aw1 w ht
  obtain ⟨W2, t2, b2, r2, hW2⟩ := aw2 W1 t1
  have HT := Lib.hid ht
  have T1 := Lib.hid t1
  have T2 := Lib.hid t2
  have R1 := Lib.hid r1
  have R2 := Lib.hid r2
  have HW1 := Lib.hid hW1
  have HW2 := Lib.hid hW2
  have HB := Lib.hid (b1.trans (b2.mono b1.size))
  clear ht t1 t2 r1 r2 hW1 hW2 b1 b2
  have kc := fun (w : World) (C : Array Value) (n c : Nat) => Lib.run_convert_bytes_const (P := Tryd.prog) w 24 5 C n c Tryd.underlying24 Tryd.underlying5
  have kd := fun (w : World) (o : Obj) (C : Array Value) (n c : Nat) => Lib.run_convert_bytes_const (P := Tryd.prog) (w.alloc o) 24 5 C n c Tryd.underlying24 Tryd.underlying5
  simp only [World.size_alloc] at kd
  go_enter Tryd.func15, Tryd.ntmps15
  go_wp2_with fail
  refine (sum_at none 0 0 [] _ 0 HT.out ⟨rfl, by simp, by omega⟩ (by omega) (by simp) (by decide +kernel)).mono ?_
  rintro e w' ⟨rfl, rfl⟩
  go_wp2_with fail
  rw [← HW1.out]
  refine (sum_at _ 1 1 _ _ 3904355907 T1.out R1.out (by omega) (by simp [p1]) (by rw [show all [p1 w] = [97] from rfl]; decide +kernel)).mono ?_
  rintro e w' ⟨rfl, rfl⟩
  go_wp2_with fail
  rw [← HW2.out]
  refine (sum_at _ 3 3 _ _ 3421780262 T2.out R2.out (by omega) (by simp [p4, p5, none_]) (by rw [show all [p4 W1, none_, p5 W1] = [49, 50, 51, 52, 53, 54, 55, 56, 57] from rfl]; decide +kernel)).mono ?_
  rintro e w' ⟨rfl, rfl⟩
  go_wp2_with fail
  refine (join_at 3904355907 0 0 3904355907 3904355907#32 0#32 0 (by omega) _ rfl rfl rfl (by decide +kernel)).mono ?_
  rintro e w' ⟨rfl, rfl⟩
  go_wp2_with fail
  refine (join_at_neg 1 2 (-1) 1#32 2#32 (by omega) _ rfl rfl).mono ?_
  rintro e w' ⟨rfl, rfl⟩
  go_wp2_with fail
  go_ret
  exact ⟨rfl, HB.out⟩

end Go.Proofs.YtcodhmfmdjopeaaDoor
