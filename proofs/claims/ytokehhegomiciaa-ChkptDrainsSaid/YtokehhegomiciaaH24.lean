/- data: the copy of a block in a transaction; blocks compared in a walk. -/
import Derived.Test.YtokehhegomiciaaH23
set_option linter.unusedVariables false
set_option linter.unusedSimpArgs false
namespace Go.Proofs.Ytokehhegomiciaa
open Go.RowKit Go.Maps

theorem wpList_eqB {ops : Array Oper} {rest : List Oper} {o : Oper} {a : Act} {w : World} {Q : Exit → Act → World → Prop} (hg : o.guard = none) (op : BinOp) (x y : Operand) (t' : TypeId) (ho : o.op = .binOp op 33 x y t') (p q : Array Value) (hx : a.eval x = .agg p) (hy : a.eval y = .agg q) {r : Value} (hr : (binOp op 33 (.agg p) (.agg q)).run Try.prog w = .ok r w)
    (hK : wpList Try.prog ops Q rest (a.put o.dst r) w) : wpList Try.prog ops Q (o :: rest) a w :=
  wpList_plain hg fun _ hK' => Oper.gives_wp rfl (gives_binOp op _ x y t' ho _ _ hx hy (gB op x y p q w) hr (T := fun v w' => v = r ∧ w' = w) ⟨rfl, rfl⟩) (by rintro v w' ⟨rfl, rfl⟩; exact hK' _ _ hK)
set_option maxRecDepth 100000 in
set_option maxHeartbeats 2000000 in
theorem data_ok {w : World} {seq : Nat} {a : Option Addr} {n cap : Nat} {vr : Value} {cs : List Cp} {rs : List Int} (hn : n = cs.length) (hc : CSee w (.slice a n cap) cs) (hcl : n ≤ 1000) (hvr : ISee w vr rs) (b : Int) : Calls Try.prog 24 #[.agg #[.int .u32 (seq : Int), .slice a n cap, vr], .int .i64 b] w fun e w' => e = .returned (.tuple #[.agg (bc (dataC (findC cs b))).toArray, .bool (findC cs b).isSome]) ∧ Grow w w' := by
  obtain ⟨ar, cr, rfl⟩ := hvr.len
  have hz := zero32
  have hs := zero_size
  have hbt := builtB
  have hzo : (bc zeroB).toArray.all (·.oneCell') = true := all_oneCell_toArray (bc_one _)
  generalize hZ : (bc zeroB).toArray = Z at *
  have HSZ := Lib.hid (show (Try.prog.info? 33).map (·.size) = some Z.size by rw [hs]; exact size32)
  have HS := Lib.hid hs
  have HB := Lib.hid hbt
  have HO := Lib.hid hzo
  have HZe := Lib.hid hZ
  have HN := Lib.hid hn
  have HC := Lib.hid hc
  clear hZ hbt hzo hs hn hc hvr
  go_enter Try.func24, Try.ntmps24
  go_wp2_with fail
  have HG := Lib.hid (show Grow w ((w.alloc (.cells #[.int .u32 (seq : Int), .slice a n cap, .slice ar rs.length cr] 39)).alloc (.cells Z 33)) from (Grow.alloc _ _).trans (Grow.alloc _ _))
  have hx := ((Grow.alloc (w.alloc (.cells #[.int .u32 (seq : Int), .slice a n cap, .slice ar rs.length cr] 39)) (.cells Z 33)).block w.heap.size (by simp)).trans (heap_alloc_last w _)
  have k1 := cell_at hx 1
  simp only [List.getElem?_toArray, List.getElem?_cons_zero, List.getElem?_cons_succ] at k1
  have HZ1 := Lib.hid (heap_two w (.cells #[.int .u32 (seq : Int), .slice a n cap, .slice ar rs.length cr] 39) (.cells Z 33))
  generalize (w.alloc (.cells #[.int .u32 (seq : Int), .slice a n cap, .slice ar rs.length cr] 39)).alloc (.cells Z 33) = W1 at *
  obtain ⟨X, hX⟩ : ∃ X, X = w.heap.size := ⟨_, rfl⟩
  obtain ⟨Y, hY⟩ : ∃ Y, Y = w.heap.size + 1 := ⟨_, rfl⟩
  have HYl := Lib.hid (show w.heap.size ≤ Y by omega)
  rw [← hY] at HZ1 ⊢
  clear hX hY hx
  have HC1 := Lib.hid (HC.out.grow HG.out)
  go_loopw [6] (fun t6 wr => ∃ i : Nat, i ≤ n ∧ t6 = .int .i64 (i : Int) ∧ Hid (findC (cs.take i) b = none) ∧ wr = W1) (fun t6 _ => n - (intOf t6).toNat)
  case atStart => exact ⟨0, by omega, rfl, Lib.hid rfl, rfl⟩
  case round =>
    obtain ⟨i, hi, rfl, HF, rfl⟩ := hrel
    by_cases hlt : i < n
    · obtain ⟨c, hx⟩ : ∃ c, cs[i]? = some c := ⟨cs[i]'(by rw [← HN.out]; exact hlt), by simp⟩
      obtain ⟨g, o, rfl, hg, hr, y0, hok⟩ := HC1.out.at_ hx
      have b0 : (0 : Int) ≤ (i : Int) := by omega
      have b1 : (i : Int) < (n : Int) := by omega
      have HX := Lib.hid hx
      have HL := Lib.hid hok.2
      have HFN := Lib.hid (show findC (cs.take (i + 1)) b = if c.1 = b then some c else none by
        rw [List.take_add_one, hx]
        have h0 := HF.out
        unfold findC at h0 ⊢
        rw [List.find?_append, h0]
        show (none : Option Cp).or (List.find? _ [c]) = _
        by_cases e : c.1 = b
        · rw [if_pos e, List.find?_cons_of_pos (by simpa using e)]; rfl
        · rw [if_neg e, List.find?_cons_of_neg (by simpa using e)]; rfl)
      have HRB := Lib.hid (show wr.rangeAt g (o + i * 257 + 1) (bc c.2) from fun j v hj => by
        have := hr (1 + j) v (by rw [Nat.add_comm]; exact hj)
        rwa [← Nat.add_assoc] at this)
      clear hx hr hok
      by_cases e : c.1 = b
      · have d0 : (c.1 == b) = true := by simpa using e
        have HM := Lib.hid (show findC cs b = some c by
          have h1 := HFN.out
          rw [if_pos e] at h1
          have h2 : cs = cs.take (i + 1) ++ cs.drop (i + 1) := (List.take_append_drop _ _).symm
          unfold findC at h1 ⊢
          rw [h2, List.find?_append, h1]; rfl)
        have HSb := Lib.hid (show (Try.prog.info? 33).map (·.size) = some (bc c.2).length by rw [bc_length, HL.out]; exact size32)
        have HSb2 := Lib.hid (show (Try.prog.info? 33).map (·.size) = some (bc c.2).toArray.size by rw [List.size_toArray, bc_length, HL.out]; exact size32)
        have HOb := Lib.hid (show (bc c.2).toArray.all (·.oneCell') = true from all_oneCell_toArray (bc_one _))
        have HZb := Lib.hid (show Z.size = (bc c.2).toArray.size by rw [HS.out, List.size_toArray, bc_length, HL.out])
        go_wp2_with (first | (refine wpList_load_mid rfl 33 _ rfl g (o + i * 257 + 1) rfl (bc c.2) _ HRB.out Try.underlying33 rfl HSb.out ?_) | (refine wpList_store_row rfl 33 _ _ rfl Y (bc c.2).toArray rfl rfl 33 Z HZ1.out HSb2.out HZb.out HOb.out ?_))
        refine bodyPost_ret (results_row_tmp rfl _ _ Y 33 (bc c.2).toArray (0, 0) _ _ rfl (setRow_heap _ _ _ _ _ _ HZ1.out) Try.underlying33 rfl HSb2.out rfl) rfl ⟨by rw [HM.out]; rfl, below_setRow HG.out HYl.out _⟩
      · have d0 : (c.1 == b) = false := by simpa using e
        have HF2 := Lib.hid (show findC (cs.take (i + 1)) b = none by rw [HFN.out, if_neg e])
        go_wp2_with fail
        go_roundw
        case rel => exact ⟨i + 1, by omega, by go_num, HF2, trivial⟩
        case measure => simp [intOf]; omega
    · obtain rfl : i = n := by omega
      have HM := Lib.hid (show findC cs b = none by have := HF.out; rwa [HN.out, List.take_length] at this)
      go_wp2_with (first | ((refine wpList_build rfl 33 _ rfl (by rw [show (((#[] : Array (Nat × Operand)).map fun (i, x) => (i, Act.eval _ x)).toList) = [] from rfl, HB.out]; rfl) ?_); rw [show (((#[] : Array (Nat × Operand)).map fun (i, x) => (i, Act.eval _ x)).toList) = [] from rfl, HB.out, Option.getD_some]) | (refine wpList_store_row rfl 33 _ _ rfl Y Z rfl rfl 33 Z HZ1.out HSZ.out rfl HO.out ?_))
      refine bodyPost_ret (results_row_tmp rfl _ _ Y 33 Z (0, 0) _ _ rfl (setRow_heap _ _ _ _ _ _ HZ1.out) Try.underlying33 rfl HSZ.out rfl) rfl ⟨by rw [HM.out]; show _ = Ending.returned (.tuple #[.agg (bc zeroB).toArray, .bool false]); rw [HZe.out]; rfl, below_setRow HG.out HYl.out _⟩
#print axioms data_ok
end Go.Proofs.Ytokehhegomiciaa
