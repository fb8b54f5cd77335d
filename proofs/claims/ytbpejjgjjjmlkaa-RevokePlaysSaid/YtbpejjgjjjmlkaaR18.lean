/- The document's Sorted: the walk. -/
import Derived.Test.YtbpejjgjjjmlkaaR17
import Derived.Laws.AppendOwnNone
set_option linter.unusedVariables false
set_option linter.unusedSimpArgs false
namespace Go.Proofs.Ytbpejjgjjjmlkaa
open Go.RowKit Go.Maps

/-- a row of integers that grows in a loop, in memory of its own -/
structure JInv (l : List Int) (v : Value) (W wi : World) : Prop where
  row : IRow wi v l
  vl : ∀ g, v.ownBlock = some g → W.heap.size ≤ g
  grow : Grow W wi
theorem JInv.start (W : World) : JInv [] (.slice none 0 0) W W := ⟨rowNil _ _ _, fun g h => (by cases h), Grow.refl _⟩
theorem JInv.pass {l : List Int} {v : Value} {W wi wa : World} (h : JInv l v W wi) (ht : Touch [] wi wa) : JInv l v W wa :=
  ⟨Row.kept h.row ht (by simp), h.vl, Grow.trans h.grow (ht.below (Nat.le_refl _) (by simp))⟩
def IApp (w : World) (v : Value) (l : List Int) (v' : Value) (w' : World) : Prop := IRow w' v' l ∧ (v'.ownBlock = v.ownBlock ∨ ∃ g, v'.ownBlock = some g ∧ w.heap.size ≤ g)
theorem JInv.app {l l' : List Int} {v v' : Value} {W wi W' wa : World} (h : JInv l v W wi) (h1 : Touch [] wi W') (ha : IApp W' v l' v' wa) (ht : Touch (ownL v) W' wa) : JInv l' v' W wa where
  row := ha.1
  vl := fun g hg => by
    rcases ha.2 with h2 | ⟨g', h2, h3⟩
    · exact h.vl g (h2 ▸ hg)
    · rw [hg] at h2; cases h2
      exact Nat.le_trans h.grow.size (Nat.le_trans h1.size h3)
  grow := Below.trans h.grow (((h1.mono (S' := ownL v) (by simp)).trans ht (fun i hi => .inl hi)).below h.grow.size (fun g hg => h.vl g (ownL_mem.1 hg)))
/-- integers of a piece are appended -/
theorem wpList_append_ints {w : World} {ops : Array Oper} {rest : List Oper} {o : Oper} {a : Act} {Q : Exit → Act → World → Prop} (hgd : o.guard = none) (s x : Operand)
    (ho : o.op = .call { callee := .builtin .append, args := #[s, x], argTypes := #[34, 34] })
    (v : Value) (zs : List Int) (hs : a.eval s = v) (hrow : IRow w v zs) (A : Option Addr) (mm c : Nat) (bs : List Int) (hx : a.eval x = .slice A mm c) (hlen : bs.length = mm) (hnil : A = none → c = 0 ∧ mm = 0)
    (hcell : ∀ ad, A = some ad → ∀ j z, bs[j]? = some z → w.cell? (ad.add j) = some (.int .i64 z)) (hl : zs.length + mm ≤ 1000000)
    (hT : ∀ v' w', IApp w v (zs ++ bs) v' w' → Touch (ownL v) w w' → wpList Try.prog ops Q rest (a.put o.dst v') w') : wpList Try.prog ops Q (o :: rest) a w := by
  obtain ⟨i0, hi, hz0, hz1, hz2⟩ := info_parts info3
  have hown := hrow.2
  rw [List.length_map, icells] at hown
  cases A with
  | none =>
    obtain ⟨rfl, rfl⟩ := hnil rfl
    have hb : bs = [] := List.eq_nil_of_length_eq_zero hlen
    subst hb
    refine wpList_append_own_none hgd s x 34 ho 0 3 i0 1 Try.underlying34 hi v zs.length (zs.map (Value.int .i64)) hs hown hx (hT v w ⟨by rw [List.append_nil]; exact hrow, .inl rfl⟩ (Touch.refl _ _))
  | some ad =>
    refine wpList_append_own_at w hgd s x 34 ho 0 3 i0 (.int .i64 0) 1 8 Try.underlying34 hi hz0 hz1 hz2 rfl (by decide) v zs.length (zs.map (Value.int .i64)) hs hown ad mm c (bs.map (Value.int .i64)) hx (by simp [hlen]) ?_ ?_ (by unfold maxLen; omega) (by omega) (Nat.zero_le _) ?_
    · intro j u hu
      rw [List.getElem?_map] at hu
      cases hz : bs[j]? with
      | none => rw [hz] at hu; simp at hu
      | some z => rw [hz] at hu; rw [hcell ad rfl j z hz]; simpa using hu
    · intro u hu; obtain ⟨y, _, rfl⟩ := List.mem_map.1 hu; rfl
    · intro v' w' h1 h2 _ h4
      refine hT v' w' ⟨⟨fun d hd => ?_, ?_⟩, ?_⟩ (Touch.grown h2 (fun k e => ownL_mem.2 e))
      · obtain ⟨y, _, rfl⟩ := List.mem_map.1 hd; rfl
      · rw [List.length_map, icells, List.length_append, hlen, List.map_append]; exact h1
      · rcases h4 with h | h
        · exact .inl h
        · exact .inr ⟨_, h, Nat.le_refl _⟩
theorem sorted_ins {out : List Int} (h : out.Pairwise (· < ·)) {k : Nat} {z : Int} (hk : k ≤ out.length) (hlt : ∀ q x, q < k → out[q]? = some x → x < z) (hgt : ∀ x, out[k]? = some x → z < x) : (out.take k ++ ([z] ++ out.drop k)).Pairwise (· < ·) := by
  have hall : ∀ q x, k ≤ q → out[q]? = some x → z < x := by
    intro q x hq hx
    have hql := (List.getElem?_eq_some_iff.1 hx).1
    have hv := (List.getElem?_eq_some_iff.1 hx).2
    have h1 := hgt (out[k]'(by omega)) (List.getElem?_eq_getElem _)
    rcases Nat.lt_or_ge k q with h2 | h2
    · have := List.pairwise_iff_getElem.1 h k q (by omega) hql h2
      omega
    · have : k = q := by omega
      subst this
      omega
  rw [List.pairwise_append]
  refine ⟨h.take, ?_, ?_⟩
  · rw [List.singleton_append, List.pairwise_cons]
    refine ⟨fun x hx => ?_, h.drop⟩
    obtain ⟨q, hq⟩ := List.mem_iff_getElem?.1 hx
    rw [List.getElem?_drop] at hq
    exact hall _ _ (by omega) hq
  · intro x hx y hy
    obtain ⟨q, hq⟩ := List.mem_iff_getElem?.1 hx
    have hqk : q < k := by
      rcases Nat.lt_or_ge q k with h1 | h1
      · exact h1
      · rw [List.getElem?_eq_none (by rw [List.length_take]; omega)] at hq; cases hq
    rw [List.getElem?_take_of_lt hqk] at hq
    have hxz := hlt q x hqk hq
    rw [List.singleton_append, List.mem_cons] at hy
    rcases hy with rfl | hy
    · exact hxz
    · obtain ⟨p, hp⟩ := List.mem_iff_getElem?.1 hy
      rw [List.getElem?_drop] at hp
      have := hall _ _ (by omega) hp
      omega
theorem mem_ins {out : List Int} {k : Nat} {z x : Int} : x ∈ out.take k ++ ([z] ++ out.drop k) ↔ x ∈ out ∨ x = z := by
  rw [List.mem_append, List.mem_append, List.mem_singleton]
  constructor
  · rintro (h | h | h)
    · exact .inl (List.mem_of_mem_take h)
    · exact .inr h
    · exact .inl (List.mem_of_mem_drop h)
  · rintro (h | h)
    · rw [← List.take_append_drop k out, List.mem_append] at h
      rcases h with h | h
      · exact .inl h
      · exact .inr (.inr h)
    · exact .inr (.inl h)
/-- what has been sorted so far -/
structure SortedTo (l : List Int) (i : Nat) (out : List Int) : Prop where
  sorted : out.Pairwise (· < ·)
  mem : ∀ x, x ∈ out ↔ x ∈ l.take i
  len : out.length ≤ i
theorem piece_cells {w : World} {g n cap : Nat} {out : List Int} (h : IRow w (.slice (some ⟨g, 0, none⟩) n cap) out) (k m : Nat) : ∀ ad : Addr, some (⟨g, k, none⟩ : Addr) = some ad → ∀ j z, ((out.drop k).take m)[j]? = some z → w.cell? (ad.add j) = some (.int .i64 z) := by
  intro ad hA j z hz
  cases hA
  have hj : j < m := by
    rcases Nat.lt_or_ge j m with h1 | h1
    · exact h1
    · rw [List.getElem?_eq_none (by rw [List.length_take]; omega)] at hz; cases hz
  rw [List.getElem?_take_of_lt hj, List.getElem?_drop] at hz
  rw [Addr.add_mid]
  exact h.cell hz
theorem one_cell (w : World) (z : Int) (t : TypeId) : ∀ ad : Addr, some (⟨w.heap.size, 0, none⟩ : Addr) = some ad → ∀ j y, [z][j]? = some y → (w.alloc (.cells #[.int .i64 z] t)).cell? (ad.add j) = some (.int .i64 y) := by
  intro ad hA j y hy
  cases hA
  cases j with
  | zero => simp at hy; rw [← hy]; exact new_cells w (icell z) t 0 _ rfl
  | succ j => simp at hy
theorem IRow.cap {w : World} {g n cap : Nat} {zs : List Int} (h : IRow w (.slice (some ⟨g, 0, none⟩) n cap) zs) (hl : 0 < zs.length) : n ≤ cap := by
  obtain ⟨g', cap', hv, _, hle, _⟩ := Row.open_ h (by rw [List.length_map]; exact hl)
  cases hv
  exact hle
theorem JInv.below {l : List Int} {v : Value} {w W wi : World} (h : JInv l v W wi) (hg : Grow w W) : JInv l v w wi := ⟨h.row, fun g e => Nat.le_trans hg.size (h.vl g e), Grow.trans hg h.grow⟩
theorem SortedTo.ins {l out : List Int} {i k : Nat} {z : Int} (h : SortedTo l i out) (hz : l[i]? = some z) (hk : k ≤ out.length) (hlt : ∀ q x, q < k → out[q]? = some x → x < z) (hgt : ∀ x, out[k]? = some x → z < x) : SortedTo l (i + 1) (out.take k ++ [z] ++ out.drop k) := by
  rw [List.append_assoc]
  refine ⟨sorted_ins h.sorted hk hlt hgt, fun x => ?_, ?_⟩
  · rw [mem_ins, h.mem x, take_snoc hz, List.mem_append, List.mem_singleton]
  · have := h.len
    simp only [List.length_append, List.length_take, List.length_drop, List.length_cons, List.length_nil]
    omega
theorem SortedTo.done {l out : List Int} (h : SortedTo l l.length out) (hn : l.Nodup) : out = sortI l := by
  have h1 : out.Nodup := h.sorted.imp (fun {a b} h => by omega)
  have hp : out.Perm l := (List.perm_ext_iff_of_nodup h1 hn).2 (fun x => by rw [h.mem x, List.take_length])
  exact sorted_unique _ _ (hp.trans (sortI_perm l).symm) (h.sorted.imp (fun {a b} h => by omega)) (sortI_sorted l)
set_option maxRecDepth 100000 in
set_option maxHeartbeats 4000000 in
theorem sorted_ok {w : World} {v : Value} {l : List Int} (h : IRow w v l) (hl : l.length ≤ 100000) (hnd : l.Nodup) :
    Calls Try.prog 29 #[v] w fun e w' => ∃ v', e = .returned v' ∧ JInv (sortI l) v' w w' := by
  have HR := Lib.hid h
  have HND := Lib.hid hnd
  obtain ⟨a1, c1, hvl⟩ := h.len
  rw [List.length_map] at hvl
  obtain ⟨n, hn⟩ : ∃ n, n = l.length := ⟨_, rfl⟩
  rw [← hn] at hvl hl
  subst hvl
  have HN := Lib.hid hn
  clear h hn hnd
  go_enter Try.func29, Try.ntmps29
  go_wp2_with fail
  go_loopw [3, 4] (fun t3 t4 wr => ∃ (i : Nat) (out : List Int), i ≤ n ∧ t4 = .int .i64 (i : Int) ∧ (∃ a3 c3, t3 = .slice a3 out.length c3 ∧ (out = [] → a3 = none ∧ c3 = 0)) ∧ Hid (JInv out t3 w wr) ∧ Hid (SortedTo l i out)) (fun _ t4 _ => n - (intOf t4).toNat)
  case atStart => exact ⟨0, [], by omega, rfl, ⟨none, 0, rfl, fun _ => ⟨rfl, rfl⟩⟩, Lib.hid (JInv.start w), Lib.hid ⟨List.Pairwise.nil, fun x => by simp, Nat.le_refl _⟩⟩
  case round =>
    obtain ⟨i, out, hi, rfl, ⟨a3, c3, rfl, hnl⟩, HI, HS⟩ := hrel
    obtain ⟨wo, rfl⟩ : ∃ wo : World, wo = wr := ⟨_, rfl⟩
    obtain ⟨N, hNo⟩ : ∃ N, N = out.length := ⟨_, rfl⟩
    rw [← hNo] at HI ⊢
    have HNO := Lib.hid hNo
    have nol : N ≤ 100000 := by have := HS.out.len; omega
    have HNL := Lib.hid hnl
    clear hnl hNo
    by_cases hlt : i < n
    · have hil : i < l.length := by rw [← HN.out]; exact hlt
      obtain ⟨z, hz⟩ : ∃ z, l[i]? = some z := ⟨l[i], by simp [hil]⟩
      obtain ⟨gl, cl, hv⟩ := HR.out.open_ (by omega)
      rw [← HN.out] at hv
      cases hv
      have HZ := Lib.hid hz
      have b0 : (0 : Int) ≤ (i : Int) := by omega
      have b1 : (i : Int) < (n : Int) := by omega
      clear hz hil
      go_wp2_with fail
      go_loopw [5] (fun t5 wr => ∃ (k : Nat), k ≤ N ∧ t5 = .int .i64 (k : Int) ∧ Hid (∀ q x, q < k → out[q]? = some x → x < z) ∧ Hid (Touch [] wo wr)) (fun t5 _ => N - (intOf t5).toNat)
      case atStart => exact ⟨0, by omega, rfl, Lib.hid (fun q x hq => (by omega)), Lib.hid (Touch.refl _ _)⟩
      case round =>
        obtain ⟨k, hk, rfl, HLT, HW⟩ := hrel
        have HIr := Lib.hid (HI.out.pass HW.out)
        have yz := IRow.cell (Row.kept (Row.kept HR.out (Touch.of_below (S := []) HI.out.grow) (by simp)) HW.out (by simp)) HZ.out
        by_cases hkt : k < N
        · have hko : k < out.length := by rw [← HNO.out]; exact hkt
          obtain ⟨y, hy⟩ : ∃ y, out[k]? = some y := ⟨out[k], by simp [hko]⟩
          obtain ⟨go, co, hv⟩ := HI.out.row.open_ (by omega)
          rw [← HNO.out] at hv
          cases hv
          have yo := IRow.cell HIr.out.row hy
          have HY := Lib.hid hy
          have k0 : (0 : Int) ≤ (k : Int) := by omega
          have k1 : decide ((k : Int) < (N : Int)) = true := by simp; omega
          have k2 : (k : Int) < (N : Int) := by omega
          clear hy hko
          by_cases hyz : y < z
          · have ey : decide (y < z) = true := by simpa using hyz
            have HLT2 := Lib.hid (show ∀ q x, q < k + 1 → out[q]? = some x → x < z from fun q x hq hx => by
              rcases Nat.lt_or_ge q k with h1 | h1
              · exact HLT.out q x h1 hx
              · have : q = k := by omega
                subst this
                rw [HY.out] at hx; cases hx; exact hyz)
            go_upto_region 6 with (fail)
            go_quiet (fail)
            go_wp2_with fail
            go_roundw
            case rel => exact ⟨k + 1, by omega, by go_num, HLT2, Lib.hid (HW.out.trans (touch_drewN [] _ _) (by simp))⟩
            case measure => simp [intOf]; omega
          · have ey : decide (y < z) = false := by simpa using hyz
            go_upto_region 6 with (fail)
            go_quiet (fail)
            have yz2 : (wr.drewN nq).cell? ⟨gl, i, none⟩ = some (.int .i64 z) := yz
            have yo2 : (wr.drewN nq).cell? ⟨go, k, none⟩ = some (.int .i64 y) := yo
            have HJ := Lib.hid (HIr.out.pass (touch_drewN [] wr nq))
            clear yz yo HIr HW
            generalize wr.drewN nq = wx at yz2 yo2 HJ ⊢
            by_cases hye : y = z
            · have eye : (y == z) = true := by simpa using hye
              have HS2 := Lib.hid (show SortedTo l (i + 1) out from ⟨HS.out.sorted, fun x => by
                rw [HS.out.mem x, take_snoc HZ.out, List.mem_append, List.mem_singleton]
                exact ⟨.inl, fun h => by rcases h with h | h; exact h; rw [h, ← hye]; exact (HS.out.mem y).1 (List.mem_of_getElem? HY.out)⟩, Nat.le_succ_of_le HS.out.len⟩)
              go_upto_region 8 with (fail)
              go_quiet (fail)
              have HJ2 := Lib.hid (HJ.out.pass (touch_drewN [] wx nq))
              go_wp2_with fail
              go_roundw
              case rel => exact ⟨i + 1, out, by omega, by go_num, ⟨_, _, by rw [← HNO.out], fun h => (by have := HNO.out; rw [h] at this; simp at this; omega)⟩, HJ2, HS2⟩
              case measure => simp [intOf]; omega
            · have eye : (y == z) = false := by simpa using hye
              go_upto_region 8 with (fail)
              go_quiet (fail)
              have yz3 : (wx.drewN nq).cell? ⟨gl, i, none⟩ = some (.int .i64 z) := yz2
              have HJ2 := Lib.hid (HJ.out.pass (touch_drewN [] wx nq))
              have hcap := IRow.cap HI.out.row (by rw [← HNO.out]; omega)
              have kc : (k : Int) ≤ (c3 : Int) := by omega
              have kn : (k : Int) ≤ (N : Int) := by omega
              have hck : ¬ c3 = k := by omega
              clear yz2 yo2
              generalize wx.drewN nq = wy at yz3 HJ2 ⊢
              clear HJ
              have HSI := Lib.hid (HS.out.ins HZ.out (show k ≤ out.length by rw [← HNO.out]; omega) HLT.out (fun x hx => by rw [HY.out] at hx; cases hx; omega))
              have HYL := Lib.hid (show gl < w.heap.size from Row.lt HR.out rfl)
              have HRO0 := Lib.hid HJ2.out.row
              go_upto_region 11 with (first | (at_builtin; refine wpList_append_ints rfl _ _ rfl (.slice none 0 0) [] rfl (rowNil _ _ _) (some ⟨go, 0, none⟩) k _ ((out.drop 0).take k) rfl (by rw [List.drop_zero, List.length_take]; have := HNO.out; omega) (fun h => by cases h) (piece_cells HRO0.out 0 k) (by simp only [List.length_nil]; omega) ?_; intro v1 w1 ha1 ht1; obtain ⟨aa1, cc1, hh1⟩ := ha1.1.len; generalize (List.map icell ([] ++ (out.drop 0).take k)).length = nn1 at hh1; subst hh1))
              have HM1 := Lib.hid (show JInv ((out.drop 0).take k) (.slice aa1 nn1 cc1) wy w1 from (JInv.start wy).app (Touch.refl _ _) ha1 ht1)
              clear ha1 ht1
              have yz4 : w1.cell? ⟨gl, i, none⟩ = some (.int .i64 z) := (HM1.out.grow.cell (p := ⟨gl, i, none⟩) (Nat.lt_of_lt_of_le HYL.out HJ2.out.grow.size)).trans yz3
              go_upto_region 12 with (first | (at_builtin; refine wpList_append_ints rfl _ _ rfl (.slice aa1 nn1 cc1) ((out.drop 0).take k) rfl (Row.kept HM1.out.row (Touch.alloc [] _ _) (by simp)) _ 1 1 [z] rfl rfl (fun h => by cases h) (one_cell _ _ _) (by rw [show ((out.drop 0).take k).length = k by rw [List.drop_zero, List.length_take]; have := HNO.out; omega]; omega) ?_; intro v2 w2 ha2 ht2; obtain ⟨aa2, cc2, hh2⟩ := ha2.1.len; generalize (List.map icell ((out.drop 0).take k ++ [z])).length = nn2 at hh2; subst hh2))
              have HM2 := Lib.hid (show JInv ((out.drop 0).take k ++ [z]) (.slice aa2 nn2 cc2) wy w2 from HM1.out.app (Touch.alloc [] _ _) ha2 ht2)
              clear ha2 ht2 yz4
              have HRO := Lib.hid (Row.kept HJ2.out.row (Touch.of_below (S := []) HM2.out.grow) (by simp))
              go_wp2_with (first | (at_builtin; refine wpList_append_ints rfl _ _ rfl (.slice aa2 nn2 cc2) ((out.drop 0).take k ++ [z]) rfl HM2.out.row (some ⟨go, k, none⟩) (N - k) _ ((out.drop k).take (N - k)) rfl (by rw [List.length_take, List.length_drop]; have := HNO.out; omega) (fun h => by cases h) (piece_cells HRO.out k (N - k)) (by simp only [List.length_append, List.length_take, List.length_drop, List.length_cons, List.length_nil]; omega) ?_; intro v3 w3 ha3 ht3))
              have HM3 := Lib.hid (show JInv ((out.drop 0).take k ++ [z] ++ (out.drop k).take (N - k)) v3 w w3 from (HM2.out.app (Touch.refl _ _) ha3 ht3).below HJ2.out.grow)
              clear ha3 ht3
              go_roundw
              case rel =>
                obtain ⟨aa3, cc3, hh3⟩ := HM3.out.row.len
                refine ⟨i + 1, _, by omega, by go_num, ⟨aa3, cc3, by rw [hh3, List.length_map], fun h => ?_⟩, HM3, ?_⟩
                · simp at h
                · exact Lib.hid (by rw [List.drop_zero, show (out.drop k).take (N - k) = out.drop k by rw [List.take_of_length_le (by rw [List.length_drop]; have := HNO.out; omega)]]; exact HSI.out)
              case measure => simp [intOf]; omega
        · obtain rfl : N = k := by omega
          have k1 : decide ((N : Int) < (N : Int)) = false := by simp
          by_cases hN0 : N = 0
          · have HO0 := Lib.hid (show out = [] from List.eq_nil_of_length_eq_zero (by rw [← HNO.out]; exact hN0))
            obtain ⟨e1, e2⟩ := HNL.out HO0.out
            subst hN0
            subst e1
            subst e2
            · skip
              go_upto_region 6 with (fail)
              go_quiet (fail)
              have yz2 : (wr.drewN nq).cell? ⟨gl, i, none⟩ = some (.int .i64 z) := yz
              have HJ := Lib.hid (HIr.out.pass (touch_drewN [] wr nq))
              clear yz HIr HW
              generalize wr.drewN nq = wx at yz2 HJ ⊢
              clear nq
              go_upto_region 8 with (fail)
              go_quiet (fail)
              have yz3 : (wx.drewN nq).cell? ⟨gl, i, none⟩ = some (.int .i64 z) := yz2
              have HJ2 := Lib.hid (HJ.out.pass (touch_drewN [] wx nq))
              clear yz2
              generalize wx.drewN nq = wy at yz3 HJ2 ⊢
              clear HJ nq
              have HSI := Lib.hid (HS.out.ins HZ.out (show 0 ≤ out.length by rw [← HNO.out]; omega) HLT.out (fun x hx => by rw [List.getElem?_eq_none (by have := HNO.out; omega)] at hx; cases hx))
              have HYL := Lib.hid (show gl < w.heap.size from Row.lt HR.out rfl)
              have HRO0 := Lib.hid HJ2.out.row
              go_upto_region 11 with (first | (at_builtin; refine wpList_append_ints rfl _ _ rfl (.slice none 0 0) [] rfl (rowNil _ _ _) none 0 0 ([]) rfl rfl (fun _ => ⟨rfl, rfl⟩) (fun ad h => by cases h) (by simp only [List.length_nil]; omega) ?_; intro v1 w1 ha1 ht1; obtain ⟨aa1, cc1, hh1⟩ := ha1.1.len; generalize (List.map icell ([] ++ [])).length = nn1 at hh1; subst hh1))
              have HM1 := Lib.hid (show JInv ([]) (.slice aa1 nn1 cc1) wy w1 from (JInv.start wy).app (Touch.refl _ _) ha1 ht1)
              clear ha1 ht1
              have yz4 : w1.cell? ⟨gl, i, none⟩ = some (.int .i64 z) := (HM1.out.grow.cell (p := ⟨gl, i, none⟩) (Nat.lt_of_lt_of_le HYL.out HJ2.out.grow.size)).trans yz3
              go_upto_region 12 with (first | (at_builtin; refine wpList_append_ints rfl _ _ rfl (.slice aa1 nn1 cc1) ([]) rfl (Row.kept HM1.out.row (Touch.alloc [] _ _) (by simp)) _ 1 1 [z] rfl rfl (fun h => by cases h) (one_cell _ _ _) (by rw [show ([]).length = 0 by simp]; omega) ?_; intro v2 w2 ha2 ht2; obtain ⟨aa2, cc2, hh2⟩ := ha2.1.len; generalize (List.map icell ([] ++ [z])).length = nn2 at hh2; subst hh2))
              have HM2 := Lib.hid (show JInv ([] ++ [z]) (.slice aa2 nn2 cc2) wy w2 from HM1.out.app (Touch.alloc [] _ _) ha2 ht2)
              clear ha2 ht2 yz4
              have HRO := Lib.hid (Row.kept HJ2.out.row (Touch.of_below (S := []) HM2.out.grow) (by simp))
              go_wp2_with (first | (at_builtin; refine wpList_append_ints rfl _ _ rfl (.slice aa2 nn2 cc2) ([] ++ [z]) rfl HM2.out.row none 0 0 [] rfl rfl (fun _ => ⟨rfl, rfl⟩) (fun ad h => by cases h) (by simp) ?_; intro v3 w3 ha3 ht3))
              have HM3 := Lib.hid (show JInv ([] ++ [z] ++ []) v3 w w3 from (HM2.out.app (Touch.refl _ _) ha3 ht3).below HJ2.out.grow)
              clear ha3 ht3
              go_roundw
              case rel =>
                obtain ⟨aa3, cc3, hh3⟩ := HM3.out.row.len
                refine ⟨i + 1, _, by omega, by go_num, ⟨aa3, cc3, by rw [hh3, List.length_map], fun h => ?_⟩, HM3, ?_⟩
                · simp at h
                · exact Lib.hid (by have h2 := HSI.out; rw [HO0.out] at h2; exact h2)
              case measure => simp [intOf]; omega
          · obtain ⟨go, co, hv⟩ := HI.out.row.open_ (by have := HNO.out; omega)
            rw [← HNO.out] at hv
            cases hv
            have hcap := IRow.cap HI.out.row (by rw [← HNO.out]; omega)
            have kc : (N : Int) ≤ (c3 : Int) := by omega
            by_cases hck : c3 = N
            · have hck' := hck.symm
              subst hck'
              go_upto_region 6 with (fail)
              go_quiet (fail)
              have yz2 : (wr.drewN nq).cell? ⟨gl, i, none⟩ = some (.int .i64 z) := yz
              have HJ := Lib.hid (HIr.out.pass (touch_drewN [] wr nq))
              clear yz HIr HW
              generalize wr.drewN nq = wx at yz2 HJ ⊢
              clear nq
              go_upto_region 8 with (fail)
              go_quiet (fail)
              have yz3 : (wx.drewN nq).cell? ⟨gl, i, none⟩ = some (.int .i64 z) := yz2
              have HJ2 := Lib.hid (HJ.out.pass (touch_drewN [] wx nq))
              clear yz2
              generalize wx.drewN nq = wy at yz3 HJ2 ⊢
              clear HJ nq
              have HSI := Lib.hid (HS.out.ins HZ.out (show N ≤ out.length by rw [← HNO.out]; omega) HLT.out (fun x hx => by rw [HNO.out, List.getElem?_eq_none (by omega)] at hx; cases hx))
              have HYL := Lib.hid (show gl < w.heap.size from Row.lt HR.out rfl)
              have HRO0 := Lib.hid HJ2.out.row
              go_upto_region 11 with (first | (at_builtin; refine wpList_append_ints rfl _ _ rfl (.slice none 0 0) [] rfl (rowNil _ _ _) (some ⟨go, 0, none⟩) N _ ((out.drop 0).take N) rfl (by rw [List.drop_zero, List.length_take]; have := HNO.out; omega) (fun h => by cases h) (piece_cells HRO0.out 0 N) (by simp only [List.length_nil]; omega) ?_; intro v1 w1 ha1 ht1; obtain ⟨aa1, cc1, hh1⟩ := ha1.1.len; generalize (List.map icell ([] ++ (out.drop 0).take N)).length = nn1 at hh1; subst hh1))
              have HM1 := Lib.hid (show JInv ((out.drop 0).take N) (.slice aa1 nn1 cc1) wy w1 from (JInv.start wy).app (Touch.refl _ _) ha1 ht1)
              clear ha1 ht1
              have yz4 : w1.cell? ⟨gl, i, none⟩ = some (.int .i64 z) := (HM1.out.grow.cell (p := ⟨gl, i, none⟩) (Nat.lt_of_lt_of_le HYL.out HJ2.out.grow.size)).trans yz3
              go_upto_region 12 with (first | (at_builtin; refine wpList_append_ints rfl _ _ rfl (.slice aa1 nn1 cc1) ((out.drop 0).take N) rfl (Row.kept HM1.out.row (Touch.alloc [] _ _) (by simp)) _ 1 1 [z] rfl rfl (fun h => by cases h) (one_cell _ _ _) (by rw [show ((out.drop 0).take N).length = N by rw [List.drop_zero, List.length_take]; have := HNO.out; omega]; omega) ?_; intro v2 w2 ha2 ht2; obtain ⟨aa2, cc2, hh2⟩ := ha2.1.len; generalize (List.map icell ((out.drop 0).take N ++ [z])).length = nn2 at hh2; subst hh2))
              have HM2 := Lib.hid (show JInv ((out.drop 0).take N ++ [z]) (.slice aa2 nn2 cc2) wy w2 from HM1.out.app (Touch.alloc [] _ _) ha2 ht2)
              clear ha2 ht2 yz4
              have HRO := Lib.hid (Row.kept HJ2.out.row (Touch.of_below (S := []) HM2.out.grow) (by simp))
              go_wp2_with (first | (at_builtin; refine wpList_append_ints rfl _ _ rfl (.slice aa2 nn2 cc2) ((out.drop 0).take N ++ [z]) rfl HM2.out.row _ 0 _ [] rfl rfl (fun h => by cases h) (fun ad hA j y hy => by simp at hy) (by simp only [List.length_append, List.length_take, List.length_drop, List.length_cons, List.length_nil]; omega) ?_; intro v3 w3 ha3 ht3))
              have HM3 := Lib.hid (show JInv ((out.drop 0).take N ++ [z] ++ []) v3 w w3 from (HM2.out.app (Touch.refl _ _) ha3 ht3).below HJ2.out.grow)
              clear ha3 ht3
              go_roundw
              case rel =>
                obtain ⟨aa3, cc3, hh3⟩ := HM3.out.row.len
                refine ⟨i + 1, _, by omega, by go_num, ⟨aa3, cc3, by rw [hh3, List.length_map], fun h => ?_⟩, HM3, ?_⟩
                · simp at h
                · exact Lib.hid (by rw [List.drop_zero, List.append_nil]; have h2 := HSI.out; rw [show out.drop N = [] by rw [HNO.out, List.drop_length], List.append_nil] at h2; exact h2)
              case measure => simp [intOf]; omega
            · skip
              go_upto_region 6 with (fail)
              go_quiet (fail)
              have yz2 : (wr.drewN nq).cell? ⟨gl, i, none⟩ = some (.int .i64 z) := yz
              have HJ := Lib.hid (HIr.out.pass (touch_drewN [] wr nq))
              clear yz HIr HW
              generalize wr.drewN nq = wx at yz2 HJ ⊢
              clear nq
              go_upto_region 8 with (fail)
              go_quiet (fail)
              have yz3 : (wx.drewN nq).cell? ⟨gl, i, none⟩ = some (.int .i64 z) := yz2
              have HJ2 := Lib.hid (HJ.out.pass (touch_drewN [] wx nq))
              clear yz2
              generalize wx.drewN nq = wy at yz3 HJ2 ⊢
              clear HJ nq
              have HSI := Lib.hid (HS.out.ins HZ.out (show N ≤ out.length by rw [← HNO.out]; omega) HLT.out (fun x hx => by rw [HNO.out, List.getElem?_eq_none (by omega)] at hx; cases hx))
              have HYL := Lib.hid (show gl < w.heap.size from Row.lt HR.out rfl)
              have HRO0 := Lib.hid HJ2.out.row
              go_upto_region 11 with (first | (at_builtin; refine wpList_append_ints rfl _ _ rfl (.slice none 0 0) [] rfl (rowNil _ _ _) (some ⟨go, 0, none⟩) N _ ((out.drop 0).take N) rfl (by rw [List.drop_zero, List.length_take]; have := HNO.out; omega) (fun h => by cases h) (piece_cells HRO0.out 0 N) (by simp only [List.length_nil]; omega) ?_; intro v1 w1 ha1 ht1; obtain ⟨aa1, cc1, hh1⟩ := ha1.1.len; generalize (List.map icell ([] ++ (out.drop 0).take N)).length = nn1 at hh1; subst hh1))
              have HM1 := Lib.hid (show JInv ((out.drop 0).take N) (.slice aa1 nn1 cc1) wy w1 from (JInv.start wy).app (Touch.refl _ _) ha1 ht1)
              clear ha1 ht1
              have yz4 : w1.cell? ⟨gl, i, none⟩ = some (.int .i64 z) := (HM1.out.grow.cell (p := ⟨gl, i, none⟩) (Nat.lt_of_lt_of_le HYL.out HJ2.out.grow.size)).trans yz3
              go_upto_region 12 with (first | (at_builtin; refine wpList_append_ints rfl _ _ rfl (.slice aa1 nn1 cc1) ((out.drop 0).take N) rfl (Row.kept HM1.out.row (Touch.alloc [] _ _) (by simp)) _ 1 1 [z] rfl rfl (fun h => by cases h) (one_cell _ _ _) (by rw [show ((out.drop 0).take N).length = N by rw [List.drop_zero, List.length_take]; have := HNO.out; omega]; omega) ?_; intro v2 w2 ha2 ht2; obtain ⟨aa2, cc2, hh2⟩ := ha2.1.len; generalize (List.map icell ((out.drop 0).take N ++ [z])).length = nn2 at hh2; subst hh2))
              have HM2 := Lib.hid (show JInv ((out.drop 0).take N ++ [z]) (.slice aa2 nn2 cc2) wy w2 from HM1.out.app (Touch.alloc [] _ _) ha2 ht2)
              clear ha2 ht2 yz4
              have HRO := Lib.hid (Row.kept HJ2.out.row (Touch.of_below (S := []) HM2.out.grow) (by simp))
              go_wp2_with (first | (at_builtin; refine wpList_append_ints rfl _ _ rfl (.slice aa2 nn2 cc2) ((out.drop 0).take N ++ [z]) rfl HM2.out.row _ 0 _ [] rfl rfl (fun h => by cases h) (fun ad hA j y hy => by simp at hy) (by simp only [List.length_append, List.length_take, List.length_drop, List.length_cons, List.length_nil]; omega) ?_; intro v3 w3 ha3 ht3))
              have HM3 := Lib.hid (show JInv ((out.drop 0).take N ++ [z] ++ []) v3 w w3 from (HM2.out.app (Touch.refl _ _) ha3 ht3).below HJ2.out.grow)
              clear ha3 ht3
              go_roundw
              case rel =>
                obtain ⟨aa3, cc3, hh3⟩ := HM3.out.row.len
                refine ⟨i + 1, _, by omega, by go_num, ⟨aa3, cc3, by rw [hh3, List.length_map], fun h => ?_⟩, HM3, ?_⟩
                · simp at h
                · exact Lib.hid (by rw [List.drop_zero, List.append_nil]; have h2 := HSI.out; rw [show out.drop N = [] by rw [HNO.out, List.drop_length], List.append_nil] at h2; exact h2)
              case measure => simp [intOf]; omega
    · obtain rfl : i = n := by omega
      have HF := Lib.hid (show JInv (sortI l) (.slice a3 N c3) w wo by rw [← (show SortedTo l l.length out by have := HS.out; rw [HN.out] at this; exact this).done HND.out]; exact HI.out)
      go_wp2_with fail
      go_ret
      exact ⟨_, rfl, HF.out⟩
#print axioms sorted_ok
end Go.Proofs.Ytbpejjgjjjmlkaa
