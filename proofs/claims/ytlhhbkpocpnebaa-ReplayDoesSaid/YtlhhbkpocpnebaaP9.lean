/- quernlaw19.short, many: the walks. -/
import Derived.Test.YtlhhbkpocpnebaaP8
set_option linter.unusedVariables false
set_option linter.unusedSimpArgs false
namespace Go.Proofs.Ytlhhbkpocpnebaa
open Go.RowKit Go.Maps

/-- transactions told in short, whole -/
def shortP (l : List TSh) : List PT := l.zipIdx.map fun q => ⟨q.2 + 1, rowsP q.1.rows, q.1.rs⟩
theorem shortP_take {l : List TSh} {k : Nat} {p : TSh} (h : l[k]? = some p) : shortP (l.take (k + 1)) = shortP (l.take k) ++ [⟨k + 1, rowsP p.rows, p.rs⟩] := by
  unfold shortP
  have hk : k < l.length := (List.getElem?_eq_some_iff.1 h).1
  rw [List.take_add_one, h, List.zipIdx_append, List.map_append, List.length_take, show min k l.length = k by omega]
  simp
theorem shortP_length (l : List TSh) : (shortP l).length = l.length := by unfold shortP; simp
/-- rows of elements of two types lie apart -/
theorem Row.apart {w : World} {e e' sz sz' : Nat} {v v' : Value} {l l' : List (List Value)} (h : Row w e sz v l) (h' : Row w e' sz' v' l') (hne : e ≠ e') {g : Nat} (hg : v.ownBlock = some g) (hg' : v'.ownBlock = some g) : False := by
  rcases h.2.2 with ⟨hv, _⟩ | ⟨g1, cap, cur, hv, _, hh, _⟩
  · rw [hv] at hg; cases hg
  rcases h'.2.2 with ⟨hv', _⟩ | ⟨g2, cap', cur', hv', _, hh', _⟩
  · rw [hv'] at hg'; cases hg'
  rw [hv] at hg; rw [hv'] at hg'
  simp only [Value.ownBlock, Option.some.injEq] at hg hg'
  subst hg hg'
  rw [hh] at hh'
  have := Option.some.inj hh'
  injection this with _ e1
  exact hne e1
/-- what is made -/
structure SSt (w : World) (v : Value) (xs : List TV) (l : List PT) (wr : World) : Prop where
  row : TRow wr v xs
  ts : xs.map (·.t) = l
  vlo : ∀ g, v.ownBlock = some g → w.heap.size ≤ g
  ilo : ∀ x ∈ xs, ∀ g, x.vc.ownBlock = some g ∨ x.vr.ownBlock = some g → w.heap.size ≤ g ∧ v.ownBlock ≠ some g
  grow : Grow w wr
theorem SSt.later {w w1 w2 : World} {v : Value} {xs : List TV} {l : List PT} (h : SSt w v xs l w1) (hg : Grow w1 w2) : SSt w v xs l w2 :=
  ⟨h.row.grow hg, h.ts, h.vlo, h.ilo, Grow.trans h.grow hg⟩
theorem SSt.len {w w1 : World} {v : Value} {xs : List TV} {l : List PT} (h : SSt w v xs l w1) : xs.length = l.length := by rw [← h.ts, List.length_map]
theorem SSt.app {w wr wz : World} {v3 u3 : Value} {xs : List TV} {l : List PT} {pt : PT} (h : SSt w v3 xs l wr) (ht : Touch (ownL v3) wr wz) (ha : TAppA wr v3 xs pt u3 wz) : ∃ x, SSt w u3 (xs ++ [x]) (l ++ [pt]) wz := by
  obtain ⟨x, hx, ho, hat, hf⟩ := ha
  have hlt : ∀ y ∈ xs, ∀ g, y.vc.ownBlock = some g ∨ y.vr.ownBlock = some g → g < wr.heap.size := fun y hy g hg => by
    rcases hg with e | e
    · exact Row.lt (h.row.at_ y hy).cs e
    · exact Row.lt (h.row.at_ y hy).rs e
  have hu : ∀ g, u3.ownBlock = some g → v3.ownBlock = some g ∨ wr.heap.size ≤ g := fun g e => by
    rcases ho.2 with h1 | ⟨g', h1, h2⟩
    · exact .inl (h1 ▸ e)
    · rw [e] at h1; cases h1; exact .inr h2
  have hin : ∀ g, g ∈ ownL v3 → w.heap.size ≤ g := fun g hg => h.vlo g (ownL_mem.1 hg)
  refine ⟨x, ⟨⟨by rw [List.map_append]; exact ho.1, fun z hz => ?_⟩, by rw [List.map_append, h.ts]; simp [hx], fun g e => ?_, fun z hz g hg => ?_, Below.trans h.grow (ht.below h.grow.size hin)⟩⟩
  · rcases List.mem_append.1 hz with h1 | h1
    · exact (h.row.at_ z h1).touch ht (fun g hg hm => (h.ilo z h1 g hg).2 (ownL_mem.1 hm))
    · rw [List.mem_singleton.1 h1]; exact hat
  · rcases hu g e with h1 | h1
    · exact h.vlo g h1
    · exact Nat.le_trans h.grow.size h1
  · rcases List.mem_append.1 hz with h1 | h1
    · refine ⟨(h.ilo z h1 g hg).1, fun e => ?_⟩
      rcases hu g e with h2 | h2
      · exact (h.ilo z h1 g hg).2 h2
      · have := hlt z h1 g hg; omega
    · rw [List.mem_singleton.1 h1] at hg
      refine ⟨Nat.le_trans h.grow.size (hf g hg), fun e => ?_⟩
      rcases hg with h1 | h1
      · exact Row.apart ho.1 hat.cs (by decide) e h1
      · exact Row.apart ho.1 hat.rs (by decide) e h1
def ShortPost (l : List TSh) (w : World) (e : Ending) (w' : World) : Prop := ∃ v xs, e = .returned v ∧ SSt w v xs (shortP l) w'
theorem RowsIn.oks {w : World} {v : Value} {l : List PR} (h : RowsIn w v l) : ∀ p ∈ l, p.ok := by
  intro p hp
  obtain ⟨i, hi, rfl⟩ := List.getElem_of_mem hp
  obtain ⟨a, cap, rfl, hel⟩ := h
  obtain ⟨y, _, _, _, _, _, hok⟩ := hel i _ (List.getElem?_eq_getElem hi)
  exact hok
theorem IntsIn.oks {w : World} {v : Value} {l : List Int} (h : IntsIn w v l) : ∀ z ∈ l, IntOk z := by
  intro p hp
  obtain ⟨i, hi, rfl⟩ := List.getElem_of_mem hp
  obtain ⟨a, cap, rfl, _, hel⟩ := h
  obtain ⟨y, _, _, _, hok⟩ := hel i _ (List.getElem?_eq_getElem hi)
  exact hok
theorem ptOk {w : World} {v1 v2 : Value} {rows : List PR} {rs : List Int} (s : Nat) (h1 : RowsIn w v1 rows) (h2 : IntsIn w v2 rs) (hl : rs.length ≤ 1000000) : (⟨s, rowsP rows, rs⟩ : PT).ok where
  cs := fun c hc => by
    obtain ⟨p, hp, rfl⟩ := List.mem_map.1 hc
    exact ⟨(h1.oks p hp).1, rowB_length p⟩
  rs := h2.oks
  rn := hl
theorem sizeT_mem {l : List TSh} {p : TSh} (h : p ∈ l) : p.rows.length + p.rs.length ≤ sizeT l := by
  unfold sizeT
  induction l with
  | nil => simp at h
  | cons q l ih =>
    rw [List.map_cons, List.sum_cons]
    rcases List.mem_cons.1 h with rfl | h1
    · omega
    · have := ih h1; omega
set_option maxRecDepth 100000 in
set_option maxHeartbeats 8000000 in
theorem short_ok {w : World} {v : Value} {l : List TSh} (h : TShIn w v l) (hl : l.length ≤ 60) (hs : sizeT l ≤ 100000) : Calls Try.prog 11 #[v] w (ShortPost l w) := by
  have HT := Lib.hid h
  have HS := Lib.hid hs
  obtain ⟨a, cap, hv, _⟩ := h
  obtain ⟨n, hn⟩ : ∃ n, n = l.length := ⟨_, rfl⟩
  have HN := Lib.hid hn
  rw [← hn] at hv hl
  subst hv
  have HI0 := Lib.hid (show SSt w (.slice none 0 0) [] (shortP (l.take 0)) w from ⟨⟨rowNil _ _ _, fun x hx => by simp at hx⟩, rfl, fun g e => (by cases e), fun x hx => by simp at hx, Grow.refl _⟩)
  clear hn hs
  go_enter Try.func11, Try.ntmps11
  go_wp2
  go_loopw [3, 4] (fun t3 t4 wr => ∃ i : Nat, t4 = .int .i64 (i : Int) ∧ i ≤ n ∧ (∃ a3 n3 c3, t3 = .slice a3 n3 c3) ∧ ∃ xs, Hid (SSt w t3 xs (shortP (l.take i)) wr)) (fun _ t4 _ => n - (intOf t4).toNat)
  case atStart => exact ⟨0, by go_num, by omega, ⟨_, _, _, rfl⟩, [], HI0⟩
  case round =>
    obtain ⟨i, rfl, hin, ⟨a3, n3, c3, rfl⟩, xs, HI⟩ := hrel
    by_cases hi : i < n
    · obtain ⟨p, hp⟩ : ∃ p, l[i]? = some p := ⟨l[i]'(by rw [← HN.out]; exact hi), by simp⟩
      obtain ⟨a', cap', hv', hel⟩ := HT.out
      rw [← HN.out] at hv'
      cases hv'
      obtain ⟨y, rfl, hyb, m, s, a1, c1, a2, c2, h0, h1, h2, h3, hr1, hr2, hR, hS⟩ := hel i p hp
      have hgr := HI.out.grow
      have h1' : wr.cell? { block := (y.add (i * 4)).block, off := (y.add (i * 4)).off + 1 } = some (.slice a1 p.rows.length c1) := (hgr.cell (p := (y.add (i * 4)).add 1) (by rw [add_block', add_block']; exact hyb)).trans h1
      have h2' : wr.cell? { block := (y.add (i * 4)).block, off := (y.add (i * 4)).off + 2 } = some (.slice a2 p.rs.length c2) := (hgr.cell (p := (y.add (i * 4)).add 2) (by rw [add_block', add_block']; exact hyb)).trans h2
      have hsz := sizeT_mem (List.mem_of_getElem? hp)
      have HSZ := Lib.hid (Nat.le_trans hsz HS.out)
      have HP := Lib.hid hp
      have HYB := Lib.hid (show (y.add (i * 4)).block < w.heap.size by rw [add_block']; exact hyb)
      have HR1 := Lib.hid hr1
      have HR2 := Lib.hid hr2
      have HA1 := Lib.hid h1'
      have HA2 := Lib.hid h2'
      have HIN := Lib.hid hi
      have HLN := Lib.hid HI.out.len
      clear h0 h1 h2 h3 hel hp hyb hgr hsz h1' h2' hr1 hr2 hR hS
      go_upto_region 5 with (fail)
      refine short_reg5 i n cap p.rows.length c1 p.rs.length c2 y a1 a2 (.slice a3 n3 c3) xs ⟨i + 1, rowsP p.rows, p.rs⟩ (ownL (.slice a3 n3 c3)) p.rows p.rs wr HIN (Lib.hid (by omega)) (Lib.hid (Nat.lt_of_lt_of_le HYB.out HI.out.grow.size)) (Lib.hid (fun hm => by have := HI.out.vlo _ (ownL_mem.1 hm); have := HYB.out; omega)) HA1 HA2 (Lib.hid ?hc) (Lib.hid rfl) (Lib.hid (ptOk _ HR1.out HR2.out (by have := HSZ.out; omega))) (Lib.hid HI.out.row.row) (Lib.hid (fun k hk => Row.lt HI.out.row.row (ownL_mem.1 hk))) (Lib.hid (fun k hk => ownL_mem.2 hk)) (Lib.hid (by rw [HLN.out, shortP_length, List.length_take]; omega)) _ _ _ _ _ _ _ _ _ _ _ _ _ _ _ _ _ _ _ _ _ _ _ _ _ _ _ (Lib.hid ?hk)
      case hc =>
        intro w2 ht
        have hg2 : Below w.heap.size w w2 := Below.trans HI.out.grow (((Touch.drew _ wr).trans ht (fun i hi => .inl hi)).below HI.out.grow.size (fun j hj => HI.out.vlo j (ownL_mem.1 hj)))
        exact trans_ok (i + 1) (HR1.out.grow hg2) (HR2.out.grow hg2) (by have := HSZ.out; omega) (by have := HSZ.out; omega)
      case hk =>
        intro u3 u11 u12 u13 u14 u15 u16 u17 u18 u19 u20 u21 u22 u23 u24 u25 u26 u27 wz htz hd
        obtain ⟨x, hx⟩ := HI.out.app htz hd
        have HI2 := Lib.hid (show SSt w u3 (xs ++ [x]) (shortP (l.take (i + 1))) wz by rw [shortP_take HP.out]; exact hx)
        obtain ⟨a4, n4, c4, rfl⟩ := rowSlice HI2.out.row.row
        clear htz hd hx
        go_wp2
        go_roundw
        case rel => exact ⟨i + 1, by go_num, by omega, ⟨_, _, _, rfl⟩, _, HI2⟩
        case measure => simp [intOf]; omega
    · obtain rfl : i = n := by omega
      have HF := Lib.hid (show SSt w (.slice a3 n3 c3) xs (shortP l) wr by have := HI.out; rw [HN.out, List.take_length] at this; exact this)
      go_wp2
      go_ret
      exact ⟨_, xs, rfl, HF.out⟩
#print axioms short_ok
end Go.Proofs.Ytlhhbkpocpnebaa
