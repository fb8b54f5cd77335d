/- The operations on a transaction's maps, as rules; records of one number added, taken away. -/
import Derived.Test.YtnogajnoghjmhaaT6
set_option linter.unusedVariables false
set_option linter.unusedSimpArgs false
namespace Go.Proofs.Ytnogajnoghjmhaa
open Go.RowKit Go.Maps

section
variable {α : Type} {K : EK α} {w : World} {ops : Array Oper} {rest : List Oper} {o : Oper} {a : Act} {Q : Exit → Act → World → Prop}
/-- 'm[i] = x' -/
theorem wpList_mapStore (hg : o.guard = none) (m x v : Operand) (t : TypeId) (hop : o.op = Op.mapUpdate t m x v) (e : TypeId) (ht : Try.prog.underlying t = some (.map 3 e)) (b N : Nat) (l : List (Int × α)) (hm : a.eval m = .map (some b)) (h : MapIs w K b N l) (hn : N ≤ 100000) (i : Int) (hi : IntOk i) (hx : a.eval x = .int .i64 i) (x0 : α) (hxo : K.ok x0) (hv : a.eval v = K.vv x0)
    (hK : ∀ w', MapIs w' K b (N + 1) (insA l i x0) → Touch [b] w w' → wpList Try.prog ops Q rest (a.put o.dst undef) w') : wpList Try.prog ops Q (o :: rest) a w := by
  obtain ⟨D, hown, hA, hle⟩ := h
  refine wpList_mapUpdate_in w hg m x v t hop 3 e keyInt ht K.elem b N D hm hown (by unfold maxLen; omega) _ _ (ik i) hx hv (keyOf_ik hi) _ [] (K.elem_mk x0 hxo) ?_
  intro w1 hown1 hturn1
  exact hK w1 ⟨_, hown1, hA.put (hown.tidy keyInt) hi hxo, by have := insA_le l i x0; omega⟩ (Touch.grown hturn1.grown (fun k e => by cases e; simp))
/-- 'delete(m, i)' -/
theorem wpList_mapDelete (hg : o.guard = none) (m x : Operand) (t : TypeId) (hop : o.op = Op.call { callee := Callee.builtin Builtin.delete, args := #[m, x], argTypes := #[t, 3] }) (e : TypeId) (ht : Try.prog.underlying t = some (.map 3 e)) (b N : Nat) (l : List (Int × α)) (hm : a.eval m = .map (some b)) (h : MapIs w K b N l) (i : Int) (hi : IntOk i) (hx : a.eval x = .int .i64 i)
    (hK : ∀ w', MapIs w' K b N (delA l i) → Touch [b] w w' → wpList Try.prog ops Q rest (a.put o.dst (.tuple #[])) w') : wpList Try.prog ops Q (o :: rest) a w := by
  obtain ⟨D, hown, hA, hle⟩ := h
  refine wpList_delete_own w hg m x t 3 hop e keyInt ht K.elem b N D hm hown _ (ik i) hx (keyOf_ik hi) ?_
  intro w1 hown1 hturn1
  exact hK w1 ⟨_, hown1, hA.del (hown.tidy keyInt) i, by have := delA_le l i; omega⟩ (Touch.grown hturn1.grown (fun k e => by cases e; simp))
/-- 'v, ok := m[i]' -/
theorem wpList_mapLookOk (hg : o.guard = none) (m x : Operand) (t : TypeId) (hop : o.op = Op.lookup t m x true) (e : TypeId) (ht : Try.prog.underlying t = some (.map 3 e)) (z : α) (hz : (zeroValue e).run Try.prog w = .ok (K.vv z) w) (hzo : K.ok z) (b N : Nat) (l : List (Int × α)) (hm : a.eval m = .map (some b)) (h : MapIs w K b N l) (i : Int) (hi : IntOk i) (hx : a.eval x = .int .i64 i)
    (hK : wpList Try.prog ops Q rest (a.put o.dst (.tuple #[K.vv ((lookA l i).getD z), .bool (decide (i ∈ keysA l))])) w) : wpList Try.prog ops Q (o :: rest) a w := by
  obtain ⟨D, hown, hA, hle⟩ := h
  rw [← lookA_isSome] at hK
  exact wpList_look_g_ok hg m x t hop 3 e keyInt ht z hz hzo b N D _ hm hown hA.g i hx (keyOf_ik hi) hK
/-- 'm[i]' -/
theorem wpList_mapLook (hg : o.guard = none) (m x : Operand) (t : TypeId) (hop : o.op = Op.lookup t m x false) (e : TypeId) (ht : Try.prog.underlying t = some (.map 3 e)) (z : α) (hz : (zeroValue e).run Try.prog w = .ok (K.vv z) w) (hzo : K.ok z) (b N : Nat) (l : List (Int × α)) (hm : a.eval m = .map (some b)) (h : MapIs w K b N l) (i : Int) (hi : IntOk i) (hx : a.eval x = .int .i64 i)
    (hK : wpList Try.prog ops Q rest (a.put o.dst (K.vv ((lookA l i).getD z))) w) : wpList Try.prog ops Q (o :: rest) a w := by
  obtain ⟨D, hown, hA, hle⟩ := h
  exact wpList_look_g hg m x t hop 3 e keyInt ht z hz hzo b N D _ hm hown hA.g i hx (keyOf_ik hi) hK
theorem MapIs.len {b N : Nat} {l : List (Int × α)} (h : MapIs w K b N l) {t e : TypeId} (ht : Try.prog.underlying t = some (.map 3 e)) (ty : TypeId) : (Builtin.len_ #[t] ty #[.map (some b)]).run Try.prog w = .ok (.int .i64 (l.length : Int)) w := by
  obtain ⟨D, hown, hA, hle⟩ := h
  rw [hown.len ht ty, hA.size]
end
theorem infoU : (Try.prog.info? 73).map (fun i => (i.zero, i.size)) = some (some (unitK.vv ()), 0) := by kernel_rfl
theorem zeroU (w : World) : (zeroValue 73).run Try.prog w = .ok (unitK.vv ()) w := (zero_of_info infoU).1 w
theorem zeroB_ok : blkK.ok zeroB := List.length_replicate
/-- 'v, ok := m[i]' of a map to nothing -/
theorem wpList_mapLookOkU {w : World} {ops : Array Oper} {rest : List Oper} {o : Oper} {a : Act} {Q : Exit → Act → World → Prop} (hg : o.guard = none) (m x : Operand) (hop : o.op = Op.lookup 61 m x true) (b N : Nat) (l : List (Int × Unit)) (hm : a.eval m = .map (some b)) (h : MapIs w unitK b N l) (i : Int) (hi : IntOk i) (hx : a.eval x = .int .i64 i)
    {f : Bool} (hf : decide (i ∈ keysA l) = f) (hK : wpList Try.prog ops Q rest (a.put o.dst (.tuple #[.agg #[], .bool f])) w) : wpList Try.prog ops Q (o :: rest) a w := by
  subst hf
  exact wpList_mapLookOk hg m x _ hop 73 Try.underlying61 () (zeroU _) trivial b N l hm h i hi hx hK
/-- 'v, ok := m[i]', 'm[i]' of a map to blocks -/
theorem wpList_mapLookOkB {w : World} {ops : Array Oper} {rest : List Oper} {o : Oper} {a : Act} {Q : Exit → Act → World → Prop} (hg : o.guard = none) (m x : Operand) (hop : o.op = Op.lookup 60 m x true) (b N : Nat) (l : List (Int × Blk)) (hm : a.eval m = .map (some b)) (h : MapIs w blkK b N l) (i : Int) (hi : IntOk i) (hx : a.eval x = .int .i64 i)
    {f : Bool} {X : Blk} (hf : decide (i ∈ keysA l) = f) (hX : (lookA l i).getD zeroB = X) (hK : wpList Try.prog ops Q rest (a.put o.dst (.tuple #[.agg (bc X).toArray, .bool f])) w) : wpList Try.prog ops Q (o :: rest) a w := by
  subst hf hX
  exact wpList_mapLookOk hg m x _ hop 33 Try.underlying60 zeroB (zero32 _) zeroB_ok b N l hm h i hi hx hK
theorem wpList_mapLookB {w : World} {ops : Array Oper} {rest : List Oper} {o : Oper} {a : Act} {Q : Exit → Act → World → Prop} (hg : o.guard = none) (m x : Operand) (hop : o.op = Op.lookup 60 m x false) (b N : Nat) (l : List (Int × Blk)) (hm : a.eval m = .map (some b)) (h : MapIs w blkK b N l) (i : Int) (hi : IntOk i) (hx : a.eval x = .int .i64 i)
    {X : Blk} (hX : (lookA l i).getD zeroB = X) (hK : wpList Try.prog ops Q rest (a.put o.dst (.agg (bc X).toArray)) w) : wpList Try.prog ops Q (o :: rest) a w := by
  subst hX
  exact wpList_mapLook hg m x _ hop 33 Try.underlying60 zeroB (zero32 _) zeroB_ok b N l hm h i hi hx hK
theorem MapIs.blk {w : World} {b N : Nat} {l : List (Int × Blk)} (h : MapIs w blkK b N l) (i : Int) : ((lookA l i).getD zeroB).length = 256 := by
  obtain ⟨D, h1, h2, h3⟩ := h
  cases e : lookA l i with
  | none => exact zeroB_ok
  | some x => exact (h2.g.dom i x e).2
theorem storeNone (a : Addr) (w : World) : (storeCells a []).run Try.prog w = .ok () w := rfl
/-- a record more -/
theorem RvIs.add {w w' : World} {B bm N seq : Nat} {zs : List Int} (h : RvIs w B bm N seq zs) {m : List Rev.Rc} {b : Int} (hp : m.Perm (zs.map fun z => (z, seq))) (hn : m.Nodup) (hb : IntOk b) (h0 : 0 ≤ b) (ht : Rev.Tab w' B bm (N + 1) (Rev.insR m (b, seq))) : RvIs w' B bm (N + 1) seq (insS zs b) where
  tab := by
    refine ⟨_, ht, ?_, ?_⟩
    · unfold Rev.insR
      rw [List.nodup_append]
      refine ⟨hn.filter _, by simp, fun a ha c hc => ?_⟩
      rw [List.mem_singleton.1 hc]
      exact (Rev.delR_mem.1 ha).2
    · unfold Rev.insR insS
      refine ((Rev.delR_perm hp (b, seq)).append (List.Perm.refl _)).trans ?_
      rw [delR_map]
      refine List.Perm.trans ?_ (((sortI_perm _).symm).map _)
      rw [List.map_append]
      exact List.Perm.refl _
  lt := insS_lt h.lt b
  ok := fun z hz => by
    rcases mem_insS.1 hz with hz | rfl
    · exact h.ok z hz
    · exact ⟨hb, h0⟩
  le := by
    unfold insS delS
    rw [sortI_length, List.length_append]
    have := List.length_filter_le (fun z => decide (z ≠ b)) zs
    have := h.le
    simp only [List.length_cons, List.length_nil]; omega
theorem RvIs.del {w w' : World} {B bm N seq : Nat} {zs : List Int} (h : RvIs w B bm N seq zs) {m : List Rev.Rc} {b : Int} (hp : m.Perm (zs.map fun z => (z, seq))) (hn : m.Nodup) (ht : Rev.Tab w' B bm N (Rev.delR m (b, seq))) : RvIs w' B bm N seq (delS zs b) where
  tab := ⟨_, ht, hn.filter _, by have := Rev.delR_perm hp (b, seq); rwa [delR_map] at this⟩
  lt := delS_lt h.lt b
  ok := fun z hz => h.ok z (mem_delS.1 hz).1
  le := Nat.le_trans (List.length_filter_le _ _) h.le
theorem rv_add {w : World} {B bm N seq : Nat} {zs : List Int} (h : RvIs w B bm N seq zs) (hN : N ≤ 100000) (hs : seq < 4294967296) {b : Int} (hb : IntOk b) (h0 : 0 ≤ b) : Calls Try.prog 38 #[.pointer (some ⟨B, 0, none⟩), .int .i64 b, .int .u32 (seq : Int)] w fun e w' => e = .returned (.int .i64 0) ∧ RvIs w' B bm (N + 1) seq (insS zs b) ∧ Touch [bm] w w' := by
  obtain ⟨m, hT, hn, hp⟩ := h.tab
  refine (Rev.add_ok hT (by omega) (b, seq) ⟨hb.1, hb.2, hs⟩ h0).mono ?_
  rintro e w' ⟨he, ht, htt⟩
  exact ⟨he, h.add hp hn hb h0 ht, htt⟩
theorem rv_del {w : World} {B bm N seq : Nat} {zs : List Int} (h : RvIs w B bm N seq zs) (hs : seq < 4294967296) {b : Int} (hb : IntOk b) (h0 : 0 ≤ b) : Calls Try.prog 34 #[.pointer (some ⟨B, 0, none⟩), .int .i64 b, .int .u32 (seq : Int)] w fun e w' => e = .returned (.int .i64 0) ∧ RvIs w' B bm N seq (delS zs b) ∧ Touch [bm] w w' := by
  obtain ⟨m, hT, hn, hp⟩ := h.tab
  refine (Rev.cancel_ok hT (b, seq) ⟨hb.1, hb.2, hs⟩ h0).mono ?_
  rintro e w' ⟨he, ht, htt⟩
  exact ⟨he, h.del hp hn ht, htt⟩
theorem rv_len {w : World} {B bm N seq : Nat} {zs : List Int} (h : RvIs w B bm N seq zs) : Calls Try.prog 41 #[.pointer (some ⟨B, 0, none⟩)] w fun e w' => e = .returned (.int .i64 (zs.length : Int)) ∧ w = w' := by
  obtain ⟨m, hT, hn, hp⟩ := h.tab
  refine (Rev.len_ok hT).mono ?_
  rintro e w' ⟨he, hw⟩
  refine ⟨?_, hw⟩
  rw [he, hp.length_eq, List.length_map]
def RowOfPost (zs : List Int) (w : World) (e : Ending) (w' : World) : Prop := ∃ v, e = .returned v ∧ IRow w' v zs ∧ Grow w w' ∧ ∀ g, v.ownBlock = some g → w.heap.size ≤ g
theorem rv_of {w : World} {B bm N seq : Nat} {zs : List Int} (h : RvIs w B bm N seq zs) (hN : N ≤ 100000) : Calls Try.prog 40 #[.pointer (some ⟨B, 0, none⟩), .int .u32 (seq : Int)] w (RowOfPost zs w) := by
  obtain ⟨m, hT, hn, hp⟩ := h.tab
  refine (Rev.of_ok hT (by have := h.le; have := hp.length_eq; rw [List.length_map] at this; omega) seq).mono ?_
  rintro e w' ⟨v, he, hr, hg⟩
  exact ⟨v, he, by rw [sortI_ofR hp h.lt] at hr; exact hr, hg⟩
#print axioms rv_of
end Go.Proofs.Ytnogajnoghjmhaa
