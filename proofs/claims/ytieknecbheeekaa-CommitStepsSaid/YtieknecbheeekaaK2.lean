/- The document's cache in memory: what it is; is, find. -/
import Derived.Test.YtieknecbheeekaaK1
set_option linter.unusedVariables false
set_option linter.unusedSimpArgs false
namespace Go.Proofs.Ytieknecbheeekaa
open Go.RowKit Go.Maps

/-- what the document's cache has of a block -/
structure HE where
  b : Int
  h : Hd
def ec (e : HE) : List Value := .int .i64 e.b :: hcells e.h
theorem ec_length {e : HE} (h : e.h.1.length = 256) : (ec e).length = 258 := by unfold ec; rw [List.length_cons, hcells_length h]
theorem ec_len_inv {e : HE} (h : (ec e).length = 258) : e.h.1.length = 256 := by
  unfold ec hcells at h
  rw [List.length_cons, List.length_append, bc_length] at h
  simpa using h
theorem ec_one (e : HE) : ∀ v ∈ ec e, v.oneCell' = true := by
  intro v hv
  rcases List.mem_cons.1 hv with rfl | h
  · rfl
  · exact hcells_one _ v h
def zeroE : HE := ⟨0, (zeroB, false)⟩
theorem zeroE_length : (ec zeroE).length = 258 := ec_length zeroHd
theorem infoE : (Try.prog.info? 80).map (fun i => (i.zero, i.size, i.bytes)) = some (some (.agg (ec zeroE).toArray), 258, 272) := by kernel_rfl
theorem built80 (parts : List (Nat × Value)) : Try.prog.built 80 parts = Instr.fill (fun i => ([(0, 1), (1, 256), (257, 1)] : List (Nat × Nat)).toArray[i]?) (ec zeroE).toArray parts := by kernel_rfl
theorem built_heldE (b : Int) (x : Blk) (hx : x.length = 256) (d : Bool) : Try.prog.built 80 [(0, .int .i64 b), (1, .agg (bc x).toArray), (2, .bool d)] = some (ec ⟨b, (x, d)⟩).toArray := by
  have hl : (bc x).length = 256 := by rw [bc_length]; exact hx
  have hz : (bc zeroB).length = 256 := by rw [bc_zero, List.length_replicate]
  rw [built80, fill_cons (off := 0) (size := 1) rfl rfl (by rw [List.size_toArray, zeroE_length]; omega)]
  rw [fill_cons (off := 1) (size := 256) rfl (by show (bc x).toArray.size = 256; rw [List.size_toArray, hl]) (by rw [List.size_toArray, setMany_length]; show 1 + 256 ≤ (ec zeroE).length; rw [zeroE_length]; omega)]
  rw [fill_cons (off := 257) (size := 1) rfl rfl (by rw [List.size_toArray, setMany_length]; show 257 + 1 ≤ (setMany (ec zeroE) 0 [.int .i64 b]).length; rw [setMany_length, zeroE_length]; omega)]
  rw [Instr.fill]
  congr 2
  show setMany (setMany (setMany (ec zeroE) 0 [.int .i64 b]) 1 (bc x)) 257 [.bool d] = ec ⟨b, (x, d)⟩
  apply List.ext_getElem?
  intro k
  have h1 : (setMany (ec zeroE) 0 [.int .i64 b]).length = 258 := by rw [setMany_length, zeroE_length]
  have h2 : (setMany (setMany (ec zeroE) 0 [.int .i64 b]) 1 (bc x)).length = 258 := by rw [setMany_length, h1]
  rw [setMany_get _ _ _ _ (by rw [h2]; simp), setMany_get _ _ _ _ (by rw [h1, hl]; omega), setMany_get _ _ _ _ (by rw [zeroE_length]; simp)]
  have hh : hcells (x, d) = bc x ++ [.bool d] := rfl
  have hr : ec ⟨b, (x, d)⟩ = .int .i64 b :: (bc x ++ [.bool d]) := rfl
  rw [hr, hl]
  by_cases e0 : k = 0
  · subst e0; simp
  · obtain ⟨j, rfl⟩ : ∃ j, k = j + 1 := ⟨k - 1, by omega⟩
    by_cases e1 : j = 256
    · subst e1
      rw [if_pos (by simp), List.getElem?_cons_succ, List.getElem?_append_right (by omega), hl]
    · by_cases e2 : j < 256
      · rw [if_neg (by simp; omega), if_pos (by omega), List.getElem?_cons_succ, List.getElem?_append_left (by omega)]
        simp
      · rw [if_neg (by simp; omega), if_neg (by omega), if_neg (by simp), List.getElem?_cons_succ, List.getElem?_eq_none (by rw [zeroE_length]; omega), List.getElem?_eq_none (by rw [List.length_append, hl]; simp; omega)]
#print axioms built_heldE
/-- the parts of the document's cache -/
structure RCP (w : World) (Q R : Nat) (T : List Nat) (d : DS) (L : List HE) (vl : Value) : Prop where
  obj : w.heap[Q]? = some (.cells #[.pointer (some ⟨R, 0, none⟩), vl, .slice none 0 0] 38)
  row : Row w 80 258 vl (L.map ec)
  ref : IsRef w R T d
  qT : Q ∉ T
  bw : ∀ k, vl.ownBlock = some k → k ≠ Q ∧ k ∉ T
theorem RCP.lt {w : World} {Q R : Nat} {T : List Nat} {d : DS} {L : List HE} {vl : Value} (h : RCP w Q R T d L vl) : ∀ k ∈ Q :: (vl.ownBlock.toList ++ T), k < w.heap.size := by
  intro k hk
  simp only [List.mem_cons, List.mem_append] at hk
  rcases hk with rfl | hk | hk
  · exact (Array.getElem?_eq_some_iff.1 h.obj).1
  · exact h.row.lt (by simpa using hk)
  · exact h.ref.lt k hk
theorem RCP.kept {w w' : World} {Q R : Nat} {T : List Nat} {d : DS} {L : List HE} {vl : Value} (h : RCP w Q R T d L vl) {S : List Nat} (ht : Touch S w w') (hn : ∀ k ∈ Q :: (vl.ownBlock.toList ++ T), k ∉ S) : RCP w' Q R T d L vl :=
  { h with
    obj := (ht.block Q (h.lt Q (by simp)) (hn Q (by simp))).trans h.obj
    row := h.row.kept ht (fun g e => hn g (by simp [e]))
    ref := h.ref.kept ht (fun k hk => hn k (by simp [hk])) }
def IsRC (w : World) (Q R : Nat) (V : List Nat) (d : DS) (L : List HE) : Prop := ∃ T vl, V = Q :: (vl.ownBlock.toList ++ T) ∧ RCP w Q R T d L vl
theorem IsRC.kept {w w' : World} {Q R : Nat} {V : List Nat} {d : DS} {L : List HE} (h : IsRC w Q R V d L) {S : List Nat} (ht : Touch S w w') (hn : ∀ k ∈ V, k ∉ S) : IsRC w' Q R V d L := by
  obtain ⟨T, vl, rfl, h⟩ := h
  exact ⟨T, vl, rfl, h.kept ht hn⟩
theorem IsRC.grow {w w' : World} {Q R : Nat} {V : List Nat} {d : DS} {L : List HE} (h : IsRC w Q R V d L) (hg : Grow w w') : IsRC w' Q R V d L := h.kept (Touch.of_below (S := []) hg) (by simp)
theorem IsRC.lt {w : World} {Q R : Nat} {V : List Nat} {d : DS} {L : List HE} (h : IsRC w Q R V d L) : ∀ k ∈ V, k < w.heap.size := by
  obtain ⟨T, vl, rfl, h⟩ := h
  exact h.lt
theorem IsRC.q {w : World} {Q R : Nat} {V : List Nat} {d : DS} {L : List HE} (h : IsRC w Q R V d L) : Q ∈ V ∧ w.cell? ⟨Q, 0, none⟩ = some (.pointer (some ⟨R, 0, none⟩)) := by
  obtain ⟨T, vl, rfl, h⟩ := h
  exact ⟨by simp, cell_at h.obj 0⟩
set_option maxHeartbeats 1000000 in
theorem ris_any {w : World} {Q R : Nat} {V : List Nat} {d : DS} {L : List HE} (h : IsRC w Q R V d L) (b : Int) : Calls Try.prog 25 #[.pointer (some ⟨Q, 0, none⟩), .int .i64 b] w fun e w' => e = .returned (.bool (decide (0 ≤ b ∧ b < d.safe.length))) ∧ w = w' := by
  obtain ⟨T, vl, rfl, h⟩ := h
  have c0 := cell_at h.obj 0
  obtain ⟨g, c, vw, h1⟩ := h.ref
  obtain ⟨r0, _⟩ := h1.cells
  have h1o := h1.one
  generalize d.safe.length = N at *
  clear h h1
  by_cases h0 : 0 ≤ b
  · have d0 : decide (0 ≤ b) = true := by simpa using h0
    by_cases hN : b < (N : Int)
    · have d1 : decide (b < (N : Int)) = true := by simpa using hN
      have hd : decide (0 ≤ b ∧ b < (N : Int)) = true := by simp; omega
      rw [hd]
      clear hd
      go_enter Try.func25, Try.ntmps25
      go_wp2
      go_ret
      exact ⟨rfl, rfl⟩
    · have d1 : decide (b < (N : Int)) = false := by simpa using hN
      have hd : decide (0 ≤ b ∧ b < (N : Int)) = false := by simp; omega
      rw [hd]
      clear hd
      go_enter Try.func25, Try.ntmps25
      go_wp2
      go_ret
      exact ⟨rfl, rfl⟩
  · have d0 : decide (0 ≤ b) = false := by simpa using h0
    have hd : decide (0 ≤ b ∧ b < (N : Int)) = false := by simp; omega
    rw [hd]
    clear hd
    go_enter Try.func25, Try.ntmps25
    go_wp2
    go_ret
    exact ⟨rfl, rfl⟩
#print axioms ris_any
/-- where a block stands -/
def FindPost (L : List HE) (b : Int) (w : World) (e : Ending) (w' : World) : Prop :=
  ((∃ (i : Nat) (x : HE), L[i]? = some x ∧ x.b = b ∧ e = .returned (.int .i64 (i : Int))) ∨ ((∀ x ∈ L, x.b ≠ b) ∧ e = .returned (.int .i64 (-1)))) ∧ w = w'
theorem RCP.at_ {w : World} {Q R : Nat} {T : List Nat} {d : DS} {L : List HE} {a : Option Addr} {n cap : Nat} (h : RCP w Q R T d L (.slice a n cap)) {i : Nat} {x : HE} (hi : L[i]? = some x) : ∃ g, a = some ⟨g, 0, none⟩ ∧ n = L.length ∧ g < w.heap.size ∧ w.rangeAt g (i * 258) (ec x) := by
  have hil : i < L.length := (List.getElem?_eq_some_iff.1 hi).1
  obtain ⟨g, cap', hv, hg, _⟩ := h.row.open_ (by rw [List.length_map]; omega)
  rw [List.length_map] at hv
  cases hv
  have hr := h.row
  exact ⟨g, rfl, rfl, hg, Row.range (by rw [List.length_map] at *; exact hr) (by rw [List.getElem?_map, hi]; rfl)⟩
theorem RCP.len {w : World} {Q R : Nat} {T : List Nat} {d : DS} {L : List HE} {vl : Value} (h : RCP w Q R T d L vl) : ∃ a cap, vl = .slice a L.length cap := by
  obtain ⟨a, cap, hv⟩ := h.row.len
  rw [List.length_map] at hv
  exact ⟨a, cap, hv⟩
set_option maxRecDepth 100000 in
set_option maxHeartbeats 2000000 in
theorem rfind_any {w : World} {Q R : Nat} {V : List Nat} {d : DS} {L : List HE} (h : IsRC w Q R V d L) (hL : L.length ≤ 1000000) (b : Int) : Calls Try.prog 37 #[.pointer (some ⟨Q, 0, none⟩), .int .i64 b] w (FindPost L b w) := by
  obtain ⟨T, vl, rfl, h⟩ := h
  obtain ⟨a, cap, rfl⟩ := h.len
  have c0 := cell_at h.obj 1
  have HP := Lib.hid h
  obtain ⟨n, hn⟩ : ∃ n, n = L.length := ⟨_, rfl⟩
  rw [← hn] at c0 HP hL
  have HN := Lib.hid hn
  clear h hn
  go_enter Try.func37, Try.ntmps37
  go_wp2_with fail
  go_loop [5] (fun t5 => ∃ i : Nat, t5 = .int .i64 (i : Int) ∧ i ≤ n ∧ Hid (∀ x ∈ L.take i, x.b ≠ b)) (fun t5 => n - (intOf t5).toNat)
  case atStart => exact ⟨0, rfl, by omega, Lib.hid (by simp)⟩
  case round =>
    obtain ⟨i, rfl, hi, HI⟩ := hrel
    by_cases hlt : i < n
    · have hil : i < L.length := by rw [← HN.out]; exact hlt
      obtain ⟨x, hx⟩ : ∃ x, L[i]? = some x := ⟨L[i], by simp [hil]⟩
      obtain ⟨g, rfl, _, _, hr⟩ := HP.out.at_ hx
      have x0 : w.cell? ⟨g, i * 258, none⟩ = some (.int .i64 x.b) := by have := hr 0 _ rfl; rw [Nat.add_zero] at this; exact this
      have b0 : (0 : Int) ≤ (i : Int) := by omega
      have b1 : (i : Int) < (n : Int) := by omega
      have HXX := Lib.hid hx
      clear hr hil hx
      by_cases hb : x.b = b
      · have e1 : (x.b == b) = true := by simpa using hb
        have HB := Lib.hid hb
        clear hb
        go_wp2_with fail
        go_ret
        exact ⟨.inl ⟨i, x, HXX.out, HB.out, rfl⟩, rfl⟩
      · have e1 : (x.b == b) = false := by simpa using hb
        have HM := Lib.hid (show ∀ y ∈ L.take (i + 1), y.b ≠ b from fun y hy => by
          have hil : i < L.length := (List.getElem?_eq_some_iff.1 HXX.out).1
          rw [List.take_add_one, HXX.out] at hy
          rcases List.mem_append.1 hy with h | h
          · exact HI.out y h
          · rw [show y = x by simpa using h]; exact hb)
        clear hb
        go_wp2_with fail
        go_round
        case rel => exact ⟨i + 1, by go_num, by omega, HM⟩
        case measure => simp [intOf]; omega
    · obtain rfl : n = i := by omega
      have HF := Lib.hid (show ∀ x ∈ L, x.b ≠ b by have := HI.out; rw [HN.out, List.take_length] at this; exact this)
      go_wp2_with fail
      go_ret
      exact ⟨.inr ⟨HF.out, rfl⟩, rfl⟩
#print axioms rfind_any
end Go.Proofs.Ytieknecbheeekaa
