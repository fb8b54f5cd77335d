/- Copies and transactions in memory; what transactions come to, plainly. -/
import Derived.Test.YtlhhbkpocpnebaaMaps
import Derived.Laws.MakeOwn
set_option linter.unusedVariables false
set_option linter.unusedSimpArgs false
namespace Go.Proofs.Ytlhhbkpocpnebaa
open Go.RowKit Go.Maps

theorem info3 : (Try.prog.info? 3).map (fun i => (i.zero, i.size, i.bytes)) = some (some (.int .i64 0), 1, 8) := by kernel_rfl
/-- a copy: a block, its bytes -/
abbrev Cp := Int × Blk
def ccell (c : Cp) : List Value := .int .i64 c.1 :: bc c.2
def cvv (c : Cp) : Value := .agg (ccell c).toArray
theorem ccell_inj {a b : Cp} (h : ccell a = ccell b) : a = b := by
  unfold ccell at h
  have h1 := List.cons.inj h
  exact Prod.ext (Value.int.inj h1.1).2 (bc_inj h1.2)
theorem ccell_length {c : Cp} (h : c.2.length = 256) : (ccell c).length = 257 := by unfold ccell; rw [List.length_cons, bc_length, h]
theorem ccell_one (c : Cp) : ∀ v ∈ ccell c, v.oneCell' = true := by
  intro v hv
  rcases List.mem_cons.1 hv with rfl | h
  · rfl
  · exact bc_one _ v h
noncomputable def copyK : EK Cp where
  vv := cvv
  ok := fun c => c.2.length = 256
  inj := fun a b h => by unfold cvv at h; simp only [Value.agg.injEq] at h; exact ccell_inj (by simpa using h)
def zeroC : Cp := (0, zeroB)
theorem zeroC_ok : zeroC.2.length = 256 := by have := zero_size; rw [List.size_toArray, bc_length] at this; exact this
theorem info40 : (Try.prog.info? 40).map (fun i => (i.zero, i.size, i.bytes)) = some (some (.agg (ccell zeroC).toArray), 257, 264) := by kernel_rfl
theorem info40b : (Try.prog.info? 40).map (fun i => (i.zero, i.size)) = some (some (.agg (ccell zeroC).toArray), 257) := by kernel_rfl
theorem zero40 (w : World) : (zeroValue 40).run Try.prog w = .ok (.agg (ccell zeroC).toArray) w := (zero_of_info info40b).1 w
theorem size40 : (Try.prog.info? 40).map (·.size) = some 257 := (zero_of_info info40b).2
theorem csize {c : Cp} (h : c.2.length = 256) : (Try.prog.info? 40).map (·.size) = some (ccell c).toArray.size := by rw [List.size_toArray, ccell_length h]; exact size40
theorem csizeL {c : Cp} (h : c.2.length = 256) : (Try.prog.info? 40).map (·.size) = some (ccell c).length := by rw [ccell_length h]; exact size40
theorem zsize {c : Cp} (h : c.2.length = 256) : (ccell zeroC).toArray.size = (ccell c).toArray.size := by rw [List.size_toArray, List.size_toArray, ccell_length zeroC_ok, ccell_length h]
/-- 'm[k]' of a map of copies -/
theorem wpList_look_copy {w : World} {ops : Array Oper} {rest : List Oper} {o : Oper} {a : Act} {Q : Exit → Act → World → Prop} (hg : o.guard = none) (m x : Operand) (hop : o.op = Op.lookup 74 m x false)
    (b n : Nat) (D : DataW Value) (f : Int → Option Cp) (hm : a.eval m = .map (some b)) (hown : w.ownsMap Try.prog 3 copyK.elem b n D) (hf : GMap copyK D f) (i : Int) (hx : a.eval x = .int .i64 i) (hi : IntOk i) (c : Cp) (hc : (f i).getD zeroC = c)
    (hK : wpList Try.prog ops Q rest (a.put o.dst (.agg (ccell c).toArray)) w) : wpList Try.prog ops Q (o :: rest) a w := by
  subst hc
  exact wpList_look_g hg m x _ hop 3 40 keyInt Try.underlying74 zeroC (zero40 w) zeroC_ok b n D f hm hown hf i hx (keyOf_ik hi) hK
theorem wpList_look_copy_ok {w : World} {ops : Array Oper} {rest : List Oper} {o : Oper} {a : Act} {Q : Exit → Act → World → Prop} (hg : o.guard = none) (m x : Operand) (hop : o.op = Op.lookup 74 m x true)
    (b n : Nat) (D : DataW Value) (f : Int → Option Cp) (hm : a.eval m = .map (some b)) (hown : w.ownsMap Try.prog 3 copyK.elem b n D) (hf : GMap copyK D f) (i : Int) (hx : a.eval x = .int .i64 i) (hi : IntOk i) (c : Cp) (hc : (f i).getD zeroC = c) (t : Bool) (ht : (f i).isSome = t)
    (hK : wpList Try.prog ops Q rest (a.put o.dst (.tuple #[.agg (ccell c).toArray, .bool t])) w) : wpList Try.prog ops Q (o :: rest) a w := by
  subst hc ht
  exact wpList_look_g_ok hg m x _ hop 3 40 keyInt Try.underlying74 zeroC (zero40 w) zeroC_ok b n D f hm hown hf i hx (keyOf_ik hi) hK
/-- a row of copies -/
def CRow (w : World) (v : Value) (cs : List Cp) : Prop := Row w 40 257 v (cs.map ccell)
def CpOk (c : Cp) : Prop := IntOk c.1 ∧ c.2.length = 256
/-- a transaction, plainly -/
structure PT where
  seq : Nat
  cs : List Cp
  rs : List Int
structure PT.ok (t : PT) : Prop where
  cs : ∀ c ∈ t.cs, CpOk c
  rs : ∀ r ∈ t.rs, IntOk r
  rn : t.rs.length ≤ 1000000
/-- .. and its rows in memory -/
structure TV where
  t : PT
  vc : Value
  vr : Value
def tcell (x : TV) : List Value := [.int .u32 (x.t.seq : Int), x.vc, x.vr]
structure TAt (w : World) (x : TV) : Prop where
  cs : CRow w x.vc x.t.cs
  rs : IRow w x.vr x.t.rs
  ok : x.t.ok
structure TRow (w : World) (v : Value) (xs : List TV) : Prop where
  row : Row w 55 3 v (xs.map tcell)
  at_ : ∀ x ∈ xs, TAt w x
theorem TAt.grow {w w' : World} {x : TV} (h : TAt w x) (hg : Grow w w') : TAt w' x :=
  ⟨Row.kept h.cs (Touch.of_below (S := []) hg) (by simp), Row.kept h.rs (Touch.of_below (S := []) hg) (by simp), h.ok⟩
theorem TRow.grow {w w' : World} {v : Value} {xs : List TV} (h : TRow w v xs) (hg : Grow w w') : TRow w' v xs :=
  ⟨Row.kept h.row (Touch.of_below (S := []) hg) (by simp), fun x hx => (h.at_ x hx).grow hg⟩
theorem CRow.grow {w w' : World} {v : Value} {cs : List Cp} (h : CRow w v cs) (hg : Grow w w') : CRow w' v cs := Row.kept h (Touch.of_below (S := []) hg) (by simp)
theorem IRow.grow {w w' : World} {v : Value} {zs : List Int} (h : IRow w v zs) (hg : Grow w w') : IRow w' v zs := Row.kept h (Touch.of_below (S := []) hg) (by simp)
/-- the cells of a transaction's element -/
theorem TRow.elem {w : World} {v : Value} {xs : List TV} (h : TRow w v xs) {k : Nat} {x : TV} (hk : xs[k]? = some x) : ∃ g cap ac nc cc ar nr cr, v = .slice (some ⟨g, 0, none⟩) xs.length cap ∧ w.cell? ⟨g, k * 3, none⟩ = some (.int .u32 (x.t.seq : Int)) ∧ w.cell? ⟨g, k * 3 + 1, none⟩ = some x.vc ∧ w.cell? ⟨g, k * 3 + 2, none⟩ = some x.vr ∧ x.vc = .slice ac nc cc ∧ nc = x.t.cs.length ∧ x.vr = .slice ar nr cr ∧ nr = x.t.rs.length ∧ w.rangeAt g (k * 3) (tcell x) := by
  have hr := h.row
  obtain ⟨g, cap, hv, _⟩ := hr.open_ (by have := (List.getElem?_eq_some_iff.1 hk).1; rw [List.length_map]; omega)
  rw [List.length_map] at hv
  subst hv
  have h1 := hr.range (i := k) (c := tcell x) (by rw [List.getElem?_map, hk]; rfl)
  have ha := h.at_ x (List.mem_of_getElem? hk)
  obtain ⟨ac, cc, hc⟩ := ha.cs.len
  obtain ⟨ar, cr, hrr⟩ := ha.rs.len
  rw [List.length_map] at hc hrr
  exact ⟨g, cap, ac, _, cc, ar, _, cr, rfl, h1 0 _ rfl, h1 1 _ rfl, h1 2 _ rfl, hc, rfl, hrr, rfl, h1⟩
theorem TRow.len {w : World} {v : Value} {xs : List TV} (h : TRow w v xs) : ∃ a cap, v = .slice a xs.length cap := by
  obtain ⟨a, cap, hv⟩ := h.row.len
  rw [List.length_map] at hv
  exact ⟨a, cap, hv⟩
theorem CRow.open_ {w : World} {v : Value} {cs : List Cp} (h : CRow w v cs) (hl : 0 < cs.length) : ∃ g cap, v = .slice (some ⟨g, 0, none⟩) cs.length cap ∧ g < w.heap.size := by
  obtain ⟨g, cap, hv, hg, _⟩ := Row.open_ h (by rw [List.length_map]; exact hl)
  rw [List.length_map] at hv
  exact ⟨g, cap, hv, hg⟩
theorem CRow.range {w : World} {g n cap : Nat} {cs : List Cp} (h : CRow w (.slice (some ⟨g, 0, none⟩) n cap) cs) {k : Nat} {c : Cp} (hk : cs[k]? = some c) : w.rangeAt g (k * 257) (ccell c) := Row.range h (by rw [List.getElem?_map, hk]; rfl)
theorem IRow.open_ {w : World} {v : Value} {zs : List Int} (h : IRow w v zs) (hl : 0 < zs.length) : ∃ g cap, v = .slice (some ⟨g, 0, none⟩) zs.length cap ∧ g < w.heap.size := by
  obtain ⟨g, cap, hv, hg, _⟩ := Row.open_ h (by rw [List.length_map]; exact hl)
  rw [List.length_map] at hv
  exact ⟨g, cap, hv, hg⟩
theorem IRow.cell {w : World} {g n cap : Nat} {zs : List Int} (h : IRow w (.slice (some ⟨g, 0, none⟩) n cap) zs) {k : Nat} {z : Int} (hk : zs[k]? = some z) : w.cell? ⟨g, k, none⟩ = some (.int .i64 z) := by
  have := Row.range h (i := k) (c := icell z) (by rw [List.getElem?_map, hk]; rfl) 0 _ rfl
  simpa using this

/-! ### what transactions come to -/
abbrev PM := Int → Option Cp
def putsG (f : PM) (cs : List Cp) : PM := cs.foldl (fun f c => putG f c.1 c) f
def delsG (f : PM) (rs : List Int) : PM := rs.foldl delG f
def ovT (f : PM) (t : PT) : PM := delsG (putsG f t.cs) t.rs
def ov (l : List PT) : PM := l.foldl ovT (fun _ => none)
def copyN (l : List PT) : Nat := (l.map fun t => t.cs.length).sum
theorem putsG_take {f : PM} {cs : List Cp} {k : Nat} {c : Cp} (h : cs[k]? = some c) : putsG f (cs.take (k + 1)) = putG (putsG f (cs.take k)) c.1 c := by
  unfold putsG; rw [List.take_add_one, h, List.foldl_append]; rfl
theorem delsG_take {f : PM} {rs : List Int} {k : Nat} {r : Int} (h : rs[k]? = some r) : delsG f (rs.take (k + 1)) = delG (delsG f (rs.take k)) r := by
  unfold delsG; rw [List.take_add_one, h, List.foldl_append]; rfl
theorem ov_take {l : List PT} {k : Nat} {t : PT} (h : l[k]? = some t) : ov (l.take (k + 1)) = delsG (putsG (ov (l.take k)) t.cs) t.rs := by
  unfold ov; rw [List.take_add_one, h, List.foldl_append]; rfl
theorem copyN_take {l : List PT} {k : Nat} {t : PT} (h : l[k]? = some t) : copyN (l.take (k + 1)) = copyN (l.take k) + t.cs.length := by
  unfold copyN; rw [List.take_add_one, h, List.map_append, List.sum_append]; simp
theorem copyN_le (l : List PT) (k : Nat) : copyN (l.take k) ≤ copyN l := by
  unfold copyN
  rw [List.map_take]
  have : (l.map fun t => t.cs.length) = (l.map fun t => t.cs.length).take k ++ (l.map fun t => t.cs.length).drop k := (List.take_append_drop _ _).symm
  conv => rhs; rw [this, List.sum_append]
  omega
/-- each copy lies under its own block -/
def Own (f : PM) : Prop := ∀ i c, f i = some c → c.1 = i ∧ c.2.length = 256 ∧ IntOk c.1
theorem Own.put {f : PM} (h : Own f) {c : Cp} (hc : CpOk c) : Own (putG f c.1 c) := by
  intro i d hd
  unfold putG at hd
  by_cases e : i = c.1
  · rw [if_pos e] at hd; cases hd; exact ⟨e.symm, hc.2, hc.1⟩
  · rw [if_neg e] at hd; exact h i d hd
theorem Own.del {f : PM} (h : Own f) (r : Int) : Own (delG f r) := by
  intro i d hd
  unfold delG at hd
  by_cases e : i = r
  · rw [if_pos e] at hd; cases hd
  · rw [if_neg e] at hd; exact h i d hd
theorem Own.puts {f : PM} (h : Own f) : ∀ (cs : List Cp), (∀ c ∈ cs, CpOk c) → Own (putsG f cs) := by
  intro cs
  induction cs generalizing f with
  | nil => intro _; exact h
  | cons c cs ih => intro hc; exact ih (h.put (hc c (by simp))) (fun d hd => hc d (by simp [hd]))
theorem Own.dels {f : PM} (h : Own f) : ∀ (rs : List Int), Own (delsG f rs) := by
  intro rs
  induction rs generalizing f with
  | nil => exact h
  | cons r rs ih => exact ih (h.del r)
theorem own_ov (l : List PT) (h : ∀ t ∈ l, t.ok) : Own (ov l) := by
  unfold ov
  have : ∀ (l : List PT) (f : PM), (∀ t ∈ l, t.ok) → Own f → Own (l.foldl ovT f) := by
    intro l
    induction l with
    | nil => intro f _ h; exact h
    | cons t l ih => intro f hl hf; exact ih _ (fun t ht => hl t (by simp [ht])) ((hf.puts t.cs (hl t (by simp)).cs).dels t.rs)
  exact this l _ h (fun i c h => by cases h)
/-- the copies at some blocks -/
def outL (f : PM) (zs : List Int) : List Cp := zs.map fun i => (f i).getD zeroC
/-- the copies that a map of copies has, rising -/
def HasM (f : PM) : Int → Bool := fun i => (f i).isSome

/-- 'make' of an empty row with room -/
theorem wpList_make_row {P : Program} {ops : Array Oper} {rest : List Oper} {o : Oper} {a : Act} {w : World} {Q : Exit → Act → World → Prop} (hgd : o.guard = none) (t : TypeId) (x y : Operand) (hop : o.op = .makeSlice t x y)
    (e : TypeId) (i : TypeInfo) (z : Value) (size bytes : Nat) (ht : P.underlying t = some (.slice e)) (hi : P.info? e = some i) (hz : i.zero = some z) (hsize : i.size = size) (hby : i.bytes = bytes)
    (c : Nat) (hx : a.eval x = .int .i64 0) (hy : a.eval y = .int .i64 (c : Int)) (hc : c ≤ 1000000) (hbytes : bytes ≤ 1000000)
    (hT : ∀ w', Row w' e size (.slice (some ⟨w.heap.size, 0, none⟩) 0 c) [] → Grow w w' → wpList P ops Q rest (a.put o.dst (.slice (some ⟨w.heap.size, 0, none⟩) 0 c)) w') : wpList P ops Q (o :: rest) a w := by
  refine wpList_plain hgd fun K' hK' => ?_
  obtain ⟨w', hr, h1, h2⟩ := run_make_own (P := P) w 0 t e i z size ht hi hz hsize .i64 .i64 c (by rw [hby]; exact Nat.le_trans (Nat.mul_le_mul hbytes hc) (by omega)) (by unfold maxLen; omega) (Nat.zero_le _)
  unfold Oper.wp
  have hrun : (execOp a.eval o).run P w = .ok (.value (.slice (some ⟨w.heap.size, 0, none⟩) 0 c)) w' := by
    unfold execOp
    simp only [hop, hx, hy, Sem.run_bind, Sem.run_pure, Result.andThen_ok, hr]
  rw [hrun]
  exact hK' _ _ (hT w' ⟨by simp, by simpa using h1⟩ ((Touch.grown (S := []) h2 (by simp)).below (Nat.le_refl _) (by simp)))
set_option maxRecDepth 100000 in
theorem buildSlice_copy (c : Cp) (hc : c.2.length = 256) (w : World) : (Instr.buildSlice 33 1 #[(0, .agg (ccell c).toArray)]).run Try.prog w = .ok (.slice (some ⟨w.heap.size, 0, none⟩) 1 1) (w.alloc (.cells (ccell c).toArray 40)) := by
  obtain ⟨i0, hi, hz0, hz1, hz2⟩ := info_parts info40
  have hl := ccell_length hc
  generalize ccell c = c at *
  have hfill : Instr.fill (fun i => some (i * 257, 257)) ((Array.range 257).map ((ccell zeroC).toArray[· % (ccell zeroC).toArray.size]!)) [(0, .agg c.toArray)] = some c.toArray := by
    rw [fill_cons (off := 0 * 257) (size := 257) rfl (by show c.toArray.size = 257; rw [List.size_toArray, hl]) (by simp), Instr.fill]
    congr 2
    rw [Nat.zero_mul]
    exact setMany_all _ _ (by show _ = c.toArray.toList.length; simp [hl])
  unfold Instr.buildSlice
  simp only [Sem.run_bind, run_underlying Try.underlying33, Result.andThen_ok, sizeOf, typeInfo, hi, hz1, zeroValue, hz0]
  simp [hi, hz1, hz0]
  rw [show (Value.agg (ccell zeroC).toArray).cells = (ccell zeroC).toArray from rfl, hfill]
  simp [newRow, go_sem]
theorem wpList_buildSlice {P : Program} {ops : Array Oper} {rest : List Oper} {o : Oper} {a : Act} {w w' : World} {v : Value} {Q : Exit → Act → World → Prop} (hgd : o.guard = none) (t : TypeId) (len : Nat) (parts : Array (Nat × Operand)) (ho : o.op = .buildSlice t len parts)
    (hf : (Instr.buildSlice t len (parts.map fun (i, x) => (i, a.eval x))).run P w = .ok v w') (hK : wpList P ops Q rest (a.put o.dst v) w') : wpList P ops Q (o :: rest) a w := by
  refine wpList_plain hgd fun K' hK' => ?_
  unfold Oper.wp
  have hrun : (execOp a.eval o).run P w = .ok (.value v) w' := by
    unfold execOp
    simp only [ho, Sem.run_bind, hf, Result.andThen_ok, Sem.run_pure]
  rw [hrun]
  exact hK' _ _ hK
#print axioms wpList_make_row
end Go.Proofs.Ytlhhbkpocpnebaa
