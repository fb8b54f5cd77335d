/- The law CommitSteps: what came in; the machine beside both caches. -/
import Derived.Test.YtieknecbheeekaaK13
set_option linter.unusedVariables false
set_option linter.unusedSimpArgs false
namespace Go.Proofs.Ytieknecbheeekaa
open Go.RowKit Go.Maps

theorem add_add (x : Addr) (m n : Nat) : (x.add m).add n = x.add (m + n) := by
  unfold Addr.add
  by_cases hn : n = 0
  · subst hn; simp
  · by_cases hm : m = 0
    · subst hm; simp [hn]
    · simp [hn, hm, Nat.add_assoc]
/-- fills that came in -/
abbrev PP := Int × Nat
def FillsIn (w : World) (v : Value) (l : List PP) : Prop := ∃ a cap, v = .slice a l.length cap ∧ ∀ (i : Nat) (p : PP), l[i]? = some p → ∃ y : Addr, a = some y ∧ y.block < w.heap.size ∧ w.cell? (y.add (i * 2)) = some (.int .i64 p.1) ∧ w.cell? ((y.add (i * 2)).add 1) = some (.int .u32 (p.2 : Int)) ∧ p.2 < 4294967296
theorem FillsIn.grow {w w' : World} {v : Value} {l : List PP} (h : FillsIn w v l) (hg : Grow w w') : FillsIn w' v l := by
  obtain ⟨a, cap, hv, h⟩ := h
  refine ⟨a, cap, hv, fun i p hp => ?_⟩
  obtain ⟨y, h1, h2, c0, c1, h3⟩ := h i p hp
  exact ⟨y, h1, Nat.lt_of_lt_of_le h2 hg.size, (Below.cell hg (by rw [add_block]; exact h2)).trans c0, (Below.cell hg (by rw [add_block, add_block]; exact h2)).trans c1, h3⟩
/-- actions that came in -/
def ActsIn (w : World) (v : Value) (l : List AT) : Prop := ∃ a cap, v = .slice a l.length cap ∧ (a = none → cap = 0) ∧ ∀ (i : Nat) (p : AT), l[i]? = some p → p.x.length = 256 ∧ ∃ y : Addr, a = some y ∧ y.block < w.heap.size ∧ ∀ j u, (ac p)[j]? = some u → w.cell? ((y.add (i * 258)).add j) = some u
theorem ActsIn.grow {w w' : World} {v : Value} {l : List AT} (h : ActsIn w v l) (hg : Grow w w') : ActsIn w' v l := by
  obtain ⟨a, cap, hv, hn, h⟩ := h
  refine ⟨a, cap, hv, hn, fun i p hp => ?_⟩
  obtain ⟨h0, y, h1, h2, h3⟩ := h i p hp
  exact ⟨h0, y, h1, Nat.lt_of_lt_of_le h2 hg.size, fun j u hj => (Below.cell hg (by rw [add_block, add_block]; exact h2)).trans (h3 j u hj)⟩
theorem ActsIn.src {w : World} {v : Value} {l : List AT} (h : ActsIn w v l) : Src w 258 v (l.map ac) := by
  obtain ⟨a, cap, rfl, hn, h⟩ := h
  have hlen : ∀ c ∈ l.map ac, c.length = 258 := fun c hc => by
    obtain ⟨p, hp, rfl⟩ := List.mem_map.1 hc
    obtain ⟨i, hi⟩ := List.mem_iff_getElem?.1 hp
    exact ac_length (h i p hi).1
  refine ⟨fun c hc => ⟨hlen c hc, acell_one l c hc⟩, ?_⟩
  cases a with
  | none =>
    left
    have h0 : l = [] := by
      cases l with
      | nil => rfl
      | cons p l => obtain ⟨_, y, h1, _⟩ := h 0 p rfl; cases h1
    subst h0
    rw [hn rfl]
    exact ⟨rfl, rfl⟩
  | some y =>
    refine .inr ⟨y, cap, by rw [List.length_map], fun j u hj => ?_⟩
    have hjl : j < l.length * 258 := by
      have := (List.getElem?_eq_some_iff.1 hj).1
      rw [flatten_length 258 _ hlen, List.length_map] at this
      exact this
    have hi : j / 258 < l.length := Nat.div_lt_of_lt_mul (by rw [Nat.mul_comm]; exact hjl)
    have hm := Nat.mod_lt j (show 0 < 258 by omega)
    have hd := Nat.div_add_mod j 258
    have hp : l[j / 258]? = some l[j / 258] := List.getElem?_eq_getElem hi
    obtain ⟨_, y', h1, _, h3⟩ := h _ _ hp
    cases h1
    have hc := flatten_get 258 (l.map ac) (j / 258) (j % 258) (ac l[j / 258]) hlen (by rw [List.getElem?_map, hp]; rfl) hm
    rw [Nat.mul_comm, hd, hj] at hc
    have h4 := h3 (j % 258) u hc.symm
    rw [add_add, Nat.mul_comm, hd] at h4
    exact h4
/-- cells are loaded whole, wherever they stand -/
theorem run_loadVar_at {P : Program} (w : World) (x : Addr) (ty : TypeId) (cs : List Value) (d : TypeDesc) (hc : ∀ j u, cs[j]? = some u → w.cell? (x.add j) = some u) (hu : P.underlying ty = some d) (hd : d.isRow = true) (hi : (P.info? ty).map (·.size) = some cs.length) :
    (loadVar ty x).run P w = .ok (.agg cs.toArray) w := by
  have hl := run_loadCells_list (P := P) w x cs hc
  cases hq : P.info? ty with
  | none => simp [hq] at hi
  | some i =>
    have hs : i.size = cs.length := by simpa [hq] using hi
    have hagg : (isAgg ty).run P w = .ok true w := by
      unfold isAgg
      rw [Sem.run_bind, run_underlying hu w]
      cases d <;> simp_all
    simp [loadVar, Sem.run_bind, hagg, sizeOf, typeInfo, hq, hs, hl]
theorem wpList_load_at {P : Program} {ops : Array Oper} {rest : List Oper} {op : Oper} {a : Act} {w : World} {Q : Exit → Act → World → Prop} (hgd : op.guard = none) (ty : TypeId) (x : Operand) (ho : op.op = .load ty x)
    (ad : Addr) (hx : a.eval x = .pointer (some ad)) (cs : List Value) (d : TypeDesc) (hc : ∀ j u, cs[j]? = some u → w.cell? (ad.add j) = some u)
    (hu : P.underlying ty = some d) (hd : d.isRow = true) (hi : (P.info? ty).map (·.size) = some cs.length)
    (h : wpList P ops Q rest (a.put op.dst (.agg cs.toArray)) w) : wpList P ops Q (op :: rest) a w := by
  refine wpList_plain hgd fun K hK => ?_
  unfold Oper.wp execOp
  simp only [ho, hx, Instr.loadAt, Instr.sureAddr, Sem.run_bind, Sem.run_pure, Result.andThen_ok, run_loadVar_at w ad ty cs d hc hu hd hi]
  exact hK _ _ h
theorem zeroB_length : zeroB.length = 256 := List.length_replicate
theorem built57 (parts : List (Nat × Value)) : Try.prog.built 57 parts = Instr.fill (fun i => ([(0, 1), (1, 1), (2, 256)] : List (Nat × Nat)).toArray[i]?) (ac zeroA).toArray parts := by kernel_rfl
theorem built_act (p : AT) (hx : p.x.length = 256) : Try.prog.built 57 [(0, .int .u8 p.k), (1, .int .i64 p.b), (2, .agg (bc p.x).toArray)] = some (ac p).toArray := by
  have hl : (bc p.x).length = 256 := by rw [bc_length]; exact hx
  have hz : (bc zeroB).length = 256 := by rw [bc_length, zeroB_length]
  rw [built57, fill_cons (off := 0) (size := 1) rfl rfl (by rw [List.size_toArray, zeroA_length]; omega)]
  rw [fill_cons (off := 1) (size := 1) rfl rfl (by rw [List.size_toArray, setMany_length]; show 1 + 1 ≤ (ac zeroA).length; rw [zeroA_length]; omega)]
  rw [fill_cons (off := 2) (size := 256) rfl (by show (bc p.x).toArray.size = 256; rw [List.size_toArray, hl]) (by rw [List.size_toArray, setMany_length]; show 2 + 256 ≤ (setMany (ac zeroA) 0 [.int .u8 p.k]).length; rw [setMany_length, zeroA_length]; omega)]
  rw [Instr.fill]
  congr 2
  show setMany (setMany (setMany (ac zeroA) 0 [.int .u8 p.k]) 1 [.int .i64 p.b]) 2 (bc p.x) = ac p
  have e1 : setMany (setMany (ac zeroA) 0 [.int .u8 p.k]) 1 [.int .i64 p.b] = .int .u8 p.k :: .int .i64 p.b :: bc zeroB := rfl
  rw [e1]
  apply List.ext_getElem?
  intro k
  rw [setMany_get _ _ _ _ (by rw [hl]; simp only [List.length_cons]; omega), hl]
  unfold ac
  by_cases c : 2 ≤ k ∧ k < 2 + 256
  · rw [if_pos c]
    obtain ⟨j, rfl⟩ : ∃ j, k = j + 2 := ⟨k - 2, by omega⟩
    rfl
  · rw [if_neg c]
    match k with
    | 0 => rfl
    | 1 => rfl
    | j + 2 =>
      show (bc zeroB)[j]? = (bc p.x)[j]?
      rw [List.getElem?_eq_none (by omega), List.getElem?_eq_none (by omega)]
theorem built53 : Try.prog.built 53 [(0, .int .u8 9)] = some (ac ⟨9, 0, zeroB⟩).toArray := by kernel_rfl
#print axioms built_act

/-- both caches, and the machine -/
structure SI (w0 : World) (C B Q R M : Nat) (U V W : List Nat) (k : Nat) (s t : CS) (L : List HE) (rem : List AT) (w : World) : Prop where
  li : LI w0 C B Q R U V k s t L w
  mach : IsMach w M C W rem
  wu : ∀ i ∈ W, i ∉ U
  wv : ∀ i ∈ W, i ∉ V
  wlo : ∀ i ∈ W, w0.heap.size ≤ i
theorem IsMach.lt {w : World} {M C : Nat} {W : List Nat} {l : List AT} (h : IsMach w M C W l) : ∀ i ∈ W, i < w.heap.size := by
  obtain ⟨g, v, nv, h⟩ := h
  exact h.lt
theorem SI.later {w0 : World} {C B Q R M : Nat} {U V W : List Nat} {k : Nat} {s t : CS} {L : List HE} {rem : List AT} {w w' : World} (h : SI w0 C B Q R M U V W k s t L rem w) (hg : Grow w w') : SI w0 C B Q R M U V W k s t L rem w' :=
  { h with
    li := h.li.later hg
    mach := h.mach.kept (Touch.of_below (S := []) hg) (by simp) }
theorem SI.kept {w0 : World} {C B Q R M : Nat} {U V W : List Nat} {k : Nat} {s t : CS} {L : List HE} {rem : List AT} {w w' : World} (h : SI w0 C B Q R M U V W k s t L rem w) {T : List Nat} (ht : Touch T w w') (hT : ∀ i ∈ (U ++ V) ++ W, i ∉ T) (hlo : ∀ i ∈ T, w0.heap.size ≤ i) : SI w0 C B Q R M U V W k s t L rem w' :=
  { h with
    li := h.li.kept ht (fun i hi => hT i (by rw [List.mem_append]; exact .inl hi)) hlo
    mach := h.mach.kept ht (fun i hi => hT i (by rw [List.mem_append]; exact .inr hi)) }
/-- a step -/
theorem SI.step {w0 : World} {C B Q R M : Nat} {U V W : List Nat} {k : Nat} {s t : CS} {L : List HE} {p : AT} {r : List AT} {w : World} (h : SI w0 C B Q R M U V W k s t L (p :: r) w) (hk : k ≤ 10000) (hr : r.length ≤ 1000000) :
    Calls Try.prog 14 #[.pointer (some ⟨M, 0, none⟩)] w fun e w' => e = .returned (.tuple #[.bool (decide ((s.act p).1 = 0 ∧ r = [])), .int .i64 (s.act p).1]) ∧ ∃ U' W', SI w0 C B Q R M U' V W' (k + 1) (s.act p).2 t L (leftOf (s.act p).1 (p :: r)) w' := by
  refine (mstep_ok ⟨h.li.cache, h.mach, h.wu⟩ (by omega) (h.li.fair.lim hk) hr).mono ?_
  rintro e w' ⟨he, U', W', hc, ht, hs⟩
  have hlo : ∀ i ∈ U ++ W, w0.heap.size ≤ i := fun i hi => by
    rcases List.mem_append.1 hi with h1 | h1
    · exact h.li.lo i (by simp [h1])
    · exact h.wlo i h1
  have hnew : ∀ i ∈ U' ++ W', i ∉ V ∧ w0.heap.size ≤ i := fun i hi => by
    rcases hs i hi with h1 | h1
    · refine ⟨?_, hlo i h1⟩
      rcases List.mem_append.1 h1 with h2 | h2
      · exact h.li.apart i h2
      · exact h.wv i h2
    · exact ⟨fun hm => by have := h.li.rc.lt i hm; omega, Nat.le_trans h.li.grow.size h1⟩
  refine ⟨he, U', W', ?_⟩
  exact {
    li := {
      cache := hc.cache
      rc := h.li.rc.kept ht (fun i hi hm => by
        rcases List.mem_append.1 hm with h1 | h1
        · exact h.li.apart i h1 hi
        · exact h.wv i h1 hi)
      is := h.li.is
      apart := fun i hi => (hnew i (by simp [hi])).1
      fair := act_fair h.li.fair p
      fairt := h.li.fairt.upto (Nat.le_succ _)
      len := Nat.le_succ_of_le h.li.len
      lo := fun i hi => by
        rcases List.mem_append.1 hi with h1 | h1
        · exact (hnew i (by simp [h1])).2
        · exact h.li.lo i (by simp [h1])
      grow := Below.trans h.li.grow (ht.below h.li.grow.size hlo) }
    mach := hc.mach
    wu := hc.apart
    wv := fun i hi => (hnew i (by simp [hi])).1
    wlo := fun i hi => (hnew i (by simp [hi])).2 }
theorem SI.do_ {w0 : World} {C B Q R M : Nat} {U V W : List Nat} {k : Nat} {s t : CS} {L : List HE} {rem : List AT} {w : World} (h : SI w0 C B Q R M U V W k s t L rem w) (hk : k ≤ 10000) (p : AT) (hx : p.x.length = 256) :
    Calls Try.prog 15 #[.pointer (some ⟨Q, 0, none⟩), .agg (ac p).toArray] w fun e w' => e = .returned (.int .i64 (t.act p).1) ∧ ∃ V' L', SI w0 C B Q R M U V' W (k + 1) s (t.act p).2 L' rem w' := by
  refine (rdo_ok h.li.rc h.li.is (by have := h.li.len; omega) p hx (h.li.fairt.lim hk)).mono ?_
  rintro e w' ⟨he, hp⟩
  obtain ⟨V', L', h1⟩ := h.li.rcTo hp (by have := h.li.len; omega) (act_fair h.li.fairt p)
  obtain ⟨V2, L2, h2, h3, h4, h5, h6⟩ := hp
  have hmk : IsMach w' M C W rem := h.mach.kept h5 h.wv
  refine ⟨he, V2, L2, ?_⟩
  have hg : Grow w0 w' := h1.grow
  exact {
    li := {
      cache := h1.cache
      rc := h2
      is := h3
      apart := fun i hi hm => by
        rcases h6 i hm with h7 | h7
        · exact h.li.apart i hi h7
        · have := h.li.cache.lt i hi; omega
      fair := h1.fair
      fairt := h1.fairt
      len := by have := h.li.len; omega
      lo := fun i hi => by
        rcases List.mem_append.1 hi with h7 | h7
        · exact h.li.lo i (by simp [h7])
        · rcases h6 i h7 with h8 | h8
          · exact h.li.lo i (by simp [h8])
          · exact Nat.le_trans h.li.grow.size h8
      grow := hg }
    mach := hmk
    wu := h.wu
    wv := fun i hi hm => by
      rcases h6 i hm with h7 | h7
      · exact h.wv i hi h7
      · have := h.mach.lt i hi; omega
    wlo := h.wlo }
#print axioms SI.do_
end Go.Proofs.Ytieknecbheeekaa
