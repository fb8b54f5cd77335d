/- The law ChkptSame: the walk. -/
import Derived.Test.YtokehhegomiciaaH42
import Derived.Test.YtokehhegomiciaaH20
import Derived.Deep.CutBlock
set_option linter.unusedVariables false
set_option linter.unusedSimpArgs false
namespace Go.Proofs.Ytokehhegomiciaa
open Go.RowKit Go.Maps

theorem cell4 {w : World} {G : Nat} {a b c d : Value} {t : TypeId} (h : w.heap[G]? = some (.cells #[a, b, c, d] t)) : w.cell? ⟨G, 0, none⟩ = some a ∧ w.cell? ⟨G, 1, none⟩ = some b ∧ w.cell? ⟨G, 2, none⟩ = some c ∧ w.cell? ⟨G, 3, none⟩ = some d := ⟨cell_at h 0, cell_at h 1, cell_at h 2, cell_at h 3⟩
/-- what lies in memory: the list, the transactions that are there, the image, the head of nothing -/
structure SmMem (g : G4) (W : World) (B IB HB nb : Nat) (s : CS) (th : List AV) (im : List Blk) (T : List Nat) (vt : Value) (wr : World) : Prop where
  ls : ∃ va xs, LSt wr B g s T va xs
  row : BRow wr (.slice (some ⟨IB, 0, none⟩) nb nb) im
  tr : GRow wr 39 3 vt (th.map tcell)
  lo : ∀ q ∈ T, W.heap.size ≤ q ∧ q < wr.heap.size ∧ q ≠ IB ∧ q ≠ HB
  vt : ∀ q, vt.ownBlock = some q → W.heap.size ≤ q ∧ q ∉ T ∧ q ≠ IB ∧ q ≠ HB
  ib : W.heap.size ≤ IB ∧ IB ≠ HB
  hb : W.heap.size ≤ HB
  hd : wr.heap[HB]? = some (.cells #[.int .u32 0, .int .i64 0] 53)
  grow : Grow W wr
theorem SmMem.iblt {g : G4} {W : World} {B IB HB nb : Nat} {s : CS} {th : List AV} {im : List Blk} {T : List Nat} {vt : Value} {wr : World} (h : SmMem g W B IB HB nb s th im T vt wr) : IB < wr.heap.size := Row.lt h.row rfl
theorem SmMem.hblt {g : G4} {W : World} {B IB HB nb : Nat} {s : CS} {th : List AV} {im : List Blk} {T : List Nat} {vt : Value} {wr : World} (h : SmMem g W B IB HB nb s th im T vt wr) : HB < wr.heap.size := (Array.getElem?_eq_some_iff.1 h.hd).1
theorem SmMem.did {g : G4} {W : World} {B IB HB nb : Nat} {s s' : CS} {th : List AV} {im : List Blk} {T : List Nat} {vt : Value} {wr w' : World} (h : SmMem g W B IB HB nb s th im T vt wr) (hl : ∃ va xs, LSt w' B g s' T va xs) (ht : Touch T wr w') : SmMem g W B IB HB nb s' th im T vt w' where
  ls := hl
  row := Row.kept h.row ht (fun q hq hm => by cases hq; exact (h.lo _ hm).2.2.1 rfl)
  tr := h.tr.kept ht (fun q hq => (h.vt q hq).2.1)
  lo := fun q hq => ⟨(h.lo q hq).1, Nat.lt_of_lt_of_le (h.lo q hq).2.1 ht.size, (h.lo q hq).2.2⟩
  vt := h.vt
  ib := h.ib
  hb := h.hb
  hd := (ht.block HB h.hblt (fun hm => (h.lo _ hm).2.2.2 rfl)).trans h.hd
  grow := Below.trans h.grow (ht.below h.grow.size (fun q hq => (h.lo q hq).1))
theorem SmMem.later {g : G4} {W : World} {B IB HB nb : Nat} {s : CS} {th : List AV} {im : List Blk} {T : List Nat} {vt : Value} {wr w' : World} (h : SmMem g W B IB HB nb s th im T vt wr) (hg : Grow wr w') : SmMem g W B IB HB nb s th im T vt w' :=
  h.did (by obtain ⟨va, xs, hl⟩ := h.ls; exact ⟨va, xs, hl.grow hg⟩) (Touch.of_below hg)
theorem SmMem.added {g : G4} {W : World} {B IB HB nb : Nat} {s s' : CS} {th : List AV} {im : List Blk} {T T' : List Nat} {vt : Value} {wr w' : World} (h : SmMem g W B IB HB nb s th im T vt wr) (hl : ∃ va xs, LSt w' B g s' T' va xs) (hT : ∀ k ∈ T', k ∈ T ∨ wr.heap.size ≤ k) (hTl : ∀ k ∈ T', k < w'.heap.size) (ht : Touch T wr w') : SmMem g W B IB HB nb s' th im T' vt w' where
  ls := hl
  row := Row.kept h.row ht (fun q hq hm => by cases hq; exact (h.lo _ hm).2.2.1 rfl)
  tr := h.tr.kept ht (fun q hq => (h.vt q hq).2.1)
  lo := fun q hq => by
    rcases hT q hq with h1 | h1
    · exact ⟨(h.lo q h1).1, hTl q hq, (h.lo q h1).2.2⟩
    · have := h.iblt; have := h.hblt; have := h.grow.size
      exact ⟨by omega, hTl q hq, by omega, by omega⟩
  vt := fun q hq => ⟨(h.vt q hq).1, fun hm => by
    rcases hT q hm with h1 | h1
    · exact (h.vt q hq).2.1 h1
    · have := (h.tr.lt hq).lt; omega, (h.vt q hq).2.2⟩
  ib := h.ib
  hb := h.hb
  hd := (ht.block HB h.hblt (fun hm => (h.lo _ hm).2.2.2 rfl)).trans h.hd
  grow := Below.trans h.grow (ht.below h.grow.size (fun q hq => (h.lo q hq).1))
theorem SmMem.push {g : G4} {W : World} {B IB HB nb : Nat} {s : CS} {th : List AV} {im : List Blk} {T : List Nat} {vt v' : Value} {x : AV} {wr w' : World} (h : SmMem g W B IB HB nb s th im T vt wr) (hr : GRow w' 39 3 v' (th.map tcell ++ [tcell x])) (hv : v'.ownBlock = vt.ownBlock ∨ ∃ g, v'.ownBlock = some g ∧ wr.heap.size ≤ g) (ht : Touch (ownL vt) wr w') : SmMem g W B IB HB nb s (th ++ [x]) im T v' w' where
  ls := by obtain ⟨va, xs, hl⟩ := h.ls; exact ⟨va, xs, hl.kept ht (fun q hq hm => (h.vt q (ownL_mem.1 hm)).2.1 hq)⟩
  row := Row.kept h.row ht (fun q hq hm => by cases hq; exact (h.vt _ (ownL_mem.1 hm)).2.2.1 rfl)
  tr := by rw [List.map_append]; exact hr
  lo := fun q hq => ⟨(h.lo q hq).1, Nat.lt_of_lt_of_le (h.lo q hq).2.1 ht.size, (h.lo q hq).2.2⟩
  vt := fun q hq => by
    rcases hv with h1 | ⟨g', h1, h2⟩
    · exact h.vt q (h1 ▸ hq)
    · rw [hq] at h1; cases h1
      have := h.iblt; have := h.hblt; have := h.grow.size
      exact ⟨by omega, fun hm => by have := (h.lo _ hm).2.1; omega, by omega, by omega⟩
  ib := h.ib
  hb := h.hb
  hd := (ht.block HB h.hblt (fun hm => (h.vt _ (ownL_mem.1 hm)).2.2.2 rfl)).trans h.hd
  grow := Below.trans h.grow (ht.below h.grow.size (fun q hq => (h.vt q (ownL_mem.1 hq)).1))
theorem SmMem.store {g : G4} {W : World} {B IB HB nb : Nat} {s : CS} {th : List AV} {im : List Blk} {T : List Nat} {vt : Value} {wr : World} (h : SmMem g W B IB HB nb s th im T vt wr) {x : Blk} (hx : x.length = 256) {b : Nat} (hb : b < im.length) : SmMem g W B IB HB nb s th (im.set b x) T vt (wr.setCells IB (b * 256) (bc x)) := by
  have ht : Touch [IB] wr (wr.setCells IB (b * 256) (bc x)) := touch_setCells (by simp) _ _ _
  have hn : ∀ q ∈ T, q ∉ [IB] := fun q hq hm => (h.lo q hq).2.2.1 (List.mem_singleton.1 hm)
  exact {
    ls := by obtain ⟨va, xs, hl⟩ := h.ls; exact ⟨va, xs, hl.kept ht hn⟩
    row := BRow.stored h.row hx hb
    tr := h.tr.kept ht (fun q hq hm => (h.vt q hq).2.2.1 (List.mem_singleton.1 hm))
    lo := fun q hq => ⟨(h.lo q hq).1, Nat.lt_of_lt_of_le (h.lo q hq).2.1 ht.size, (h.lo q hq).2.2⟩
    vt := h.vt
    ib := h.ib
    hb := h.hb
    hd := (ht.block HB h.hblt (fun hm => h.ib.2 (List.mem_singleton.1 hm).symm)).trans h.hd
    grow := Below.trans h.grow (ht.below h.grow.size (fun q hq => by rw [List.mem_singleton.1 hq]; exact h.ib.1)) }
theorem SmMem.tail {g : G4} {W : World} {B IB HB nb : Nat} {s : CS} {x : AV} {q : List AV} {im : List Blk} {T : List Nat} {a : Option Addr} {n c : Nat} {wr : World} (h : SmMem g W B IB HB nb s (x :: q) im T (.slice a n c) wr) : SmMem g W B IB HB nb s q im T (sliced a 1 n c 3) wr := by
  have ht := GRow.tail (c := tcell x) (l := q.map tcell) h.tr
  exact { h with tr := ht.1, vt := fun k hk => h.vt k (ht.2.1 k hk) }
theorem SmMem.see {g : G4} {W : World} {B IB HB nb : Nat} {s : CS} {th : List AV} {im : List Blk} {T : List Nat} {vt : Value} {wr : World} (h : SmMem g W B IB HB nb s th im T vt wr) {v : Value} {l : List AV} (hA : ASee W v l) (hm : ∀ x ∈ th, x ∈ l) : TSee wr vt th := ⟨h.tr.see, fun x hx => (hA.2 x (hm x hx)).grow h.grow⟩
/-- what is true of them -/
structure SmP (g : G4) (l : List AV) (nb i n k S : Nat) (s : CS) (th : List AV) (im : List Blk) : Prop where
  si : SInv g s th im
  av : ∀ x ∈ th, x ∈ l
  len : th.length ≤ i
  iml : im.length = nb
  ph : i = n + 1 → ∃ (s0 : CS) (zs : List Int) (th0 : List AV) (Wc Hc : Nat), zs.Nodup ∧ DInv s0 zs th0 s Wc Hc ∧ Wc + Hc = k ∧ zs.length + th0.length = S
theorem SInv.alen {g : G4} {s : CS} {th : List AV} {im : List Blk} (h : SInv g s th im) : s.all.length = th.length := by have := congrArg List.length h.hd; simpa using this
theorem SInv.hdr {g : G4} {s : CS} {th : List AV} {im : List Blk} (h : SInv g s th im) : s.all.map hdrT = th.map hdrA := by
  have := congrArg (List.map Prod.fst) h.hd
  rw [List.map_map, List.map_map] at this
  exact this
theorem SInv.block {g : G4} {s : CS} {th : List AV} {im : List Blk} (h : SInv g s th im) {t : CT} {r : List CT} {c : Cp} {lf : List Cp} (hs : s.all = t :: r) (hl : t.left = c :: lf) : inG g c.1 := by
  have h1 : hdr4 t ∈ th.map hdr4A := by rw [← h.hd, hs]; exact List.mem_map_of_mem (List.mem_cons_self ..)
  obtain ⟨x, hx, e⟩ := List.mem_map.1 h1
  have e2 : x.cs = t.cs := congrArg Prod.snd e
  have ht := h.ok t (by rw [hs]; exact List.mem_cons_self ..)
  exact h.ing x hx c (by rw [e2]; exact ht.sub.subset (by rw [hl]; exact List.mem_cons_self ..))
theorem nextC_head {s : CS} {t : CT} {r : List CT} (hs : s.all = t :: r) (hl : t.left = []) : nextC s 0 0 99 = headC r t.count 0 0 99 := by unfold nextC; rw [hs]; simp only [hl]
theorem SmP.none {g : G4} {l : List AV} {nb i n k S : Nat} {s : CS} {th : List AV} {im : List Blk} (h : SmP g l nb i n k S s th im) (hs : s.all = []) (hk : k < S) : th = [] ∧ i ≠ n + 1 := by
  refine ⟨List.eq_nil_of_length_eq_zero (by rw [← h.si.alen, hs]; rfl), fun e => ?_⟩
  obtain ⟨s0, zs, th0, Wc, Hc, _, hd, h1, h2⟩ := h.ph e
  have := hd.none hs
  omega
theorem SmP.write {g : G4} {l : List AV} {nb i n k S : Nat} {s : CS} {th : List AV} {im : List Blk} (h : SmP g l nb i n k S s th im) {t : CT} {r : List CT} {c : Cp} {lf : List Cp} (hs : s.all = t :: r) (hl : t.left = c :: lf) (hg : 2 + g.jr + g.gr * g.sz = (nb : Int)) :
    ∃ (b : Nat) (X : Blk), c.1 = (b : Int) ∧ b < nb ∧ dataC (getC s.all c.1) = X ∧ X.length = 256 ∧ SmP g l nb i n (k + 1) S (s.forget c.1) th (im.set b X) ∧ recov th (im.set b X) = recov th im ∧ nextC s 0 0 99 = ⟨1, (b : Int), X, 0, 0, 0⟩ ∧ didC s = (0, s.forget (b : Int)) := by
  have hG := h.si.block hs hl
  unfold inG at hG
  obtain ⟨b, hb⟩ : ∃ b : Nat, c.1 = (b : Int) := ⟨c.1.toNat, by omega⟩
  have hbn : b < nb := by omega
  obtain ⟨d, hd, h1, h2⟩ := h.si.write hs hl hb (by rw [h.iml]; exact hbn)
  have hX : dataC (getC s.all c.1) = d.2 := by rw [hd]; rfl
  refine ⟨b, d.2, hb, hbn, hX, by rw [← hX]; exact dataG_len h.si.ok _, ⟨h1, h.av, h.len, by rw [List.length_set]; exact h.iml, fun e => ?_⟩, h2, ?_, ?_⟩
  · obtain ⟨s0, zs, th0, Wc, Hc, hn, hd2, h3, h4⟩ := h.ph e
    exact ⟨s0, zs, th0, Wc + 1, Hc, hn, (hd2.write hn hs hl).2.2.2, by omega, h4⟩
  · rw [← hX, ← hb]; unfold nextC; rw [hs]; simp only [hl]
  · rw [← hb]; unfold didC; rw [hs]; simp only [hl]
theorem SmP.head {g : G4} {l : List AV} {nb i n k S : Nat} {s : CS} {th : List AV} {im : List Blk} (h : SmP g l nb i n k S s th im) {t : CT} {r : List CT} (hs : s.all = t :: r) (hl : t.left = []) :
    ∃ x q, th = x :: q ∧ SmP g l nb i n (k + 1) S { s with all := r } q im ∧ recov q im = recov th im ∧ didC s = (0, { s with all := r }) ∧ ((q = [] ∧ nextC s 0 0 99 = ⟨2, 0, zeroB, 99, 0, t.count⟩) ∨ ∃ y q' hst, q = y :: q' ∧ nextC s 0 0 99 = ⟨2, 0, zeroB, y.seq, hst, t.count⟩) := by
  obtain ⟨x, q, rfl, hh, hr, hsi, hrec⟩ := h.si.head hs hl
  refine ⟨x, q, rfl, ⟨hsi, fun y hy => h.av y (List.mem_cons_of_mem _ hy), Nat.le_trans (Nat.le_succ _) h.len, h.iml, fun e => ?_⟩, hrec, by unfold didC; rw [hs]; simp only [hl], ?_⟩
  · obtain ⟨s0, zs, th0, Wc, Hc, hn, hd2, h3, h4⟩ := h.ph e
    obtain ⟨_, _, _, _, h5⟩ := hd2.head hs hl
    exact ⟨s0, zs, th0, Wc, Hc + 1, hn, h5, by omega, h4⟩
  · rw [nextC_head hs hl]
    cases r with
    | nil =>
      cases q with
      | nil => exact .inl ⟨rfl, by unfold headC; simp⟩
      | cons y q' => cases hr
    | cons u r' =>
      cases q with
      | nil => cases hr
      | cons y q' =>
        rw [List.map_cons, List.map_cons] at hr
        injection hr with e1 e2
        have e3 : u.seq = y.seq := congrArg Prod.fst e1
        exact .inr ⟨y, q', u.start, rfl, by unfold headC; simp only; rw [e3]⟩
theorem SmP.done {g : G4} {l : List AV} {nb i n k S : Nat} {s : CS} {th : List AV} {im : List Blk} (h : SmP g l nb i n k S s th im) (hk : k = S) (e : i = n + 1) : s.all = [] := by
  obtain ⟨s0, zs, th0, Wc, Hc, _, hd, h1, h2⟩ := h.ph e
  exact (hd.done (by omega)).2.2
theorem SmP.again {g : G4} {l : List AV} {nb i n k S : Nat} {s : CS} {th : List AV} {im : List Blk} (h : SmP g l nb i n k S s th im) (k' S' : Nat) (e : i ≠ n + 1) : SmP g l nb i n k' S' s th im := ⟨h.si, h.av, h.len, h.iml, fun e' => absurd e' e⟩

set_option maxRecDepth 100000 in
set_option maxHeartbeats 16000000 in
theorem same_walk {W : World} {v : Value} {l : List AV} (g : G4) (hA : ASee W v l) (hl : l.length ≤ 9223372036854775807) (hcl : ∀ x ∈ l, x.cs.length ≤ 9223372036854775807 ∧ x.rs.length ≤ 9223372036854775807) :
    Calls Try.prog 4 #[.agg #[.int .i64 g.gr, .int .i64 g.sz, .int .i64 g.ni, .int .i64 g.jr], v] W fun e w' => e = .returned (.bool true) ∧ Grow W w' := by
  have HA := Lib.hid hA
  have HGR := Lib.hid (show ∀ w, Grow W w → Calls Try.prog 8 #[v] w fun e w' => ∃ b, e = .returned (.bool b) ∧ Grow w w' ∧ (b = false → Small l) from fun w hg => great_ok (hA.grow hg) hl hcl)
  have HAW := Lib.hid (fun w => awake_ok w)
  have hz := zero32
  have hz57 := zero57
  have hsz := zero_size
  generalize hZ : (bc zeroB).toArray = Z at *
  have HZ0 := Lib.hid hsz
  have HSz := Lib.hid (show ∀ s : SV, s.data.length = 256 → (Try.prog.info? 57).map (·.size) = some (scell s).toArray.size from fun s h => ssize h)
  have HSz0 := Lib.hid (show ∀ s : SV, s.data.length = 256 → (scell zeroS).toArray.size = (scell s).toArray.size from fun s h => ssize0 h)
  generalize hZ5 : (scell zeroS).toArray = Z57 at *
  obtain ⟨a, cap, hv⟩ := hA.len
  obtain ⟨n, hn⟩ : ∃ n, n = l.length := ⟨_, rfl⟩
  rw [← hn] at hv
  subst hv
  have HN := Lib.hid hn
  clear hA hl hcl hZ hsz hZ5 hn
  go_enter Try.func4, Try.ntmps4
  go_wp2_with fail
  refine (HGR.out _ (Grow.alloc _ _)).mono ?_
  intro e w1 hp
  obtain ⟨gb, rfl, hg1, hsm⟩ := hp
  have HG1 := Lib.hid (show Grow W w1 from (Grow.alloc _ _).trans hg1)
  have HSM := Lib.hid hsm
  have HGE := Lib.hid ((hg1.block W.heap.size (by simp)).trans (heap_alloc_last W _))
  obtain ⟨GB, hGB⟩ : ∃ GB, GB = W.heap.size := ⟨_, rfl⟩
  rw [← hGB] at HGE ⊢
  have HGL := Lib.hid (Array.getElem?_eq_some_iff.1 HGE.out).1
  have HGBE := Lib.hid hGB
  clear hg1 hsm HGR hGB
  cases gb with
  | true =>
    go_wp2_with fail
    refine (HAW.out _).mono ?_
    intro e w2 hp
    obtain ⟨rfl, hg2⟩ := hp
    have HG2 := Lib.hid (HG1.out.trans hg2)
    clear hg2
    go_wp2_with fail
    go_ret
    exact ⟨rfl, HG2.out⟩
  | false =>
    have HS := Lib.hid (HSM.out rfl)
    obtain ⟨k0, k1, k2, k3⟩ := cell4 HGE.out
    by_cases hM : g.May
    · have HM := Lib.hid hM
      obtain ⟨nb, hnb, hnb0⟩ : ∃ nb : Nat, 2 + g.jr + g.gr * g.sz = (nb : Int) ∧ 1 ≤ nb := by
        have h := hM
        unfold G4.May Geo.May at h
        have h2 := Geo.mul_bd h.1 h.2.1 h.2.2.1 h.2.2.2.1
        exact ⟨(2 + g.jr + g.gr * g.sz).toNat, by omega, by omega⟩
      have HNB := Lib.hid hnb
      have HRB := Lib.hid (show ∀ w, Calls Try.prog 15 #[.agg #[.int .i64 g.gr, .int .i64 g.sz, .int .i64 g.ni, .int .i64 g.jr]] w fun e w' => e = .returned (.int .i64 (nb : Int)) ∧ Grow w w' from fun w => by rw [← hnb]; exact rblocks_ok hM w)
      have HRM := Lib.hid (show ∀ w, Calls Try.prog 14 #[.agg #[.int .i64 g.gr, .int .i64 g.sz, .int .i64 g.ni, .int .i64 g.jr]] w fun e w' => e = .returned (.bool true) ∧ Grow w w' from fun w => Geo.rmay_yes _ _ _ _ hM w)
      have HNW := Lib.hid (fun w => new_ok hM w)
      clear hM hnb
      go_wp2_with fail
      refine (HRM.out _).mono ?_
      intro e w2 hp
      obtain ⟨rfl, hg2⟩ := hp
      have HG2 := Lib.hid (HG1.out.trans hg2)
      have HGE2 := Lib.hid ((hg2.block GB HGL.out).trans HGE.out)
      clear k0 k1 k2 k3 hg2
      obtain ⟨k0, k1, k2, k3⟩ := cell4 HGE2.out
      go_wp2_with fail
      refine (HRB.out _).mono ?_
      intro e w3 hp
      obtain ⟨rfl, hg3⟩ := hp
      have HG3 := Lib.hid (HG2.out.trans hg3)
      have HGE3 := Lib.hid ((hg3.block GB (Array.getElem?_eq_some_iff.1 HGE2.out).1).trans HGE2.out)
      clear k0 k1 k2 k3 hg3
      by_cases h300 : nb > 300
      · have d0 : decide ((nb : Int) > 300) = true := decide_eq_true (by omega)
        go_wp2_with fail
        refine (HAW.out _).mono ?_
        intro e w4 hp
        obtain ⟨rfl, hg4⟩ := hp
        have HG4 := Lib.hid (HG3.out.trans hg4)
        clear hg4
        go_wp2_with fail
        go_ret
        exact ⟨rfl, HG4.out⟩
      · have d0 : decide ((nb : Int) > 300) = false := decide_eq_false (by omega)
        have hnb3 : nb ≤ 300 := by omega
        obtain ⟨k0, k1, k2, k3⟩ := cell4 HGE3.out
        clear HGE HGE2 HG1 HG2
        go_wp2_with fail
        refine (HNW.out _).mono ?_
        intro e w4 hp
        obtain ⟨B, rfl, hl4, hB4, hg4⟩ := hp
        have HG4 := Lib.hid (HG3.out.trans hg4)
        have HL4 := Lib.hid hl4
        have HB4 := Lib.hid (show W.heap.size ≤ B from Nat.le_trans HG3.out.size hB4)
        have HGE4 := Lib.hid ((hg4.block GB (Array.getElem?_eq_some_iff.1 HGE3.out).1).trans HGE3.out)
        clear k0 k1 k2 k3 hl4 hB4 hg4
        obtain ⟨k0, k1, k2, k3⟩ := cell4 HGE4.out
        go_wp2_with fail
        refine (HRB.out _).mono ?_
        intro e w5 hp
        obtain ⟨rfl, hg5⟩ := hp
        have HG5 := Lib.hid (HG4.out.trans hg5)
        have HL5 := Lib.hid (HL4.out.grow hg5)
        obtain ⟨M, hMz, hmk⟩ := mk_run nb (by omega)
        have HMZ := Lib.hid hMz
        clear k0 k1 k2 k3 hg5 hMz HGE3 HGE4 HG3 HG4 HL4
        go_upto_region 7 with fail
        clear hmk
        have HR5 := Lib.hid (show BRow (w5.alloc (.cells M 33)) (.slice (some ⟨w5.heap.size, 0, none⟩) nb nb) (List.replicate nb zeroB) from row_new (by omega) HMZ.out (heap_alloc_last _ _))
        go_upto_region 9 with fail
        have HK0 := Lib.hid (show SmMem g W B w5.heap.size (w5.heap.size + 1) nb ⟨false, 0, []⟩ [] (List.replicate nb zeroB) [B] (.slice none 0 0) ((w5.alloc (.cells M 33)).alloc (.cells #[.int .u32 0, .int .i64 0] 53)) from {
          ls := ⟨_, _, HL5.out.grow ((Grow.alloc _ _).trans (Grow.alloc _ _))⟩
          row := HR5.out.grow (Grow.alloc _ _)
          tr := ⟨by simp, .inl ⟨rfl, rfl⟩⟩
          lo := fun q hq => by
            rw [List.mem_singleton.1 hq]
            have h1 := HB4.out
            have h2 := HL5.out.lt
            exact ⟨h1, by simp; omega, by omega, by omega⟩
          vt := fun q hq => by cases hq
          ib := ⟨HG5.out.size, by omega⟩
          hb := Nat.le_trans HG5.out.size (Nat.le_succ _)
          hd := by rw [show w5.heap.size + 1 = (w5.alloc (.cells M 33)).heap.size by simp]; exact heap_alloc_last _ _
          grow := HG5.out.trans ((Grow.alloc _ _).trans (Grow.alloc _ _)) })
        have HP0 := Lib.hid (show SmP g l nb 0 n 0 0 ⟨false, 0, []⟩ [] (List.replicate nb zeroB) from ⟨SInv.start g _, by simp, Nat.le_refl _, List.length_replicate, fun e => by cases e⟩)
        obtain ⟨IB, hIB⟩ : ∃ IB, IB = w5.heap.size := ⟨_, rfl⟩
        obtain ⟨HB, hHB⟩ : ∃ HB, HB = w5.heap.size + 1 := ⟨_, rfl⟩
        rw [← hIB] at hHB
        rw [← hIB, ← hHB] at HK0
        simp only [← hIB, ← hHB]
        generalize (w5.alloc (.cells M 33)).alloc (.cells #[.int .u32 0, .int .i64 0] 53) = w6 at *
        clear hIB hHB HR5 HL5 HG5 HB4
        have hn60 : n ≤ 60 := by rw [HN.out]; exact HS.out.1
        have hw1 : IntKind.i64.wrap ((n : Int) + 1) = (n : Int) + 1 := by rw [IntKind.wrap_i64] <;> omega
        go_wp2_with fail
        go_loopw [8, 10] (fun t8 t10 wr => ∃ (i : Nat) (s : CS) (th : List AV) (im : List Blk) (T : List Nat), t10 = .int .i64 (i : Int) ∧ i ≤ n + 1 ∧ (∃ a c, t8 = .slice a th.length c) ∧ Hid (SmMem g W B IB HB nb s th im T t8 wr) ∧ Hid (SmP g l nb i n 0 0 s th im) ∧ Hid (i = n + 1 → s.all = [])) (fun _ t10 _ => n + 1 - (intOf t10).toNat)
        case atStart => exact ⟨0, _, [], _, [B], by go_num, by omega, ⟨_, _, rfl⟩, HK0, HP0, Lib.hid fun e => by cases e⟩
        case round =>
          clear HK0 HP0
          obtain ⟨i, s, th, im, T, rfl, hin, ⟨a8, c8, rfl⟩, HK, HP, HE⟩ := hrel
          obtain ⟨nt, hnt⟩ : ∃ nt, nt = th.length := ⟨_, rfl⟩
          rw [← hnt] at HK ⊢
          have HNT := Lib.hid hnt
          clear hnt
          by_cases hi : i < n + 1
          · have d1 : decide ((i : Int) < (n : Int) + 1) = true := decide_eq_true (by omega)
            obtain ⟨en, hen⟩ : ∃ en : Bool, ((i : Int) == (n : Int)) = en := ⟨_, rfl⟩
            have HEN := Lib.hid hen
            go_upto_if 50 with fail
            clear hen
            go_cut [8, 11] from 51 to 88 (fun t8 t11 wx => ∃ (S : Nat) (s : CS) (th : List AV) (im : List Blk) (T : List Nat), t11 = .int .i64 (S : Int) ∧ S ≤ 1000000 ∧ (∃ a c, t8 = .slice a th.length c) ∧ Hid (SmMem g W B IB HB nb s th im T t8 wx) ∧ Hid (SmP g l nb (i + 1) n 0 S s th im))
            case first =>
              cases en with
              | true =>
                have hin2 : i = n := by have := HEN.out; simp at this; omega
                have HIN2 := Lib.hid hin2
                obtain ⟨va, xs, hls⟩ := HK.out.ls
                have HL := Lib.hid hls
                clear hls
                go_wp2_with fail
                refine (left_ok HL.out).mono ?_
                intro e w7 hp
                unfold LeftPost at hp
                obtain ⟨v7, zs, rfl, hz7, hr7, hlen7, hg7, _⟩ := hp
                obtain ⟨a7, c7, hv7⟩ := hz7.len
                obtain ⟨nl, hnl⟩ : ∃ nl, nl = zs.length := ⟨_, rfl⟩
                rw [← hnl] at hv7 hlen7
                subst hv7
                have HRI := Lib.hid hr7
                have HNL := Lib.hid hnl
                have HL7 := Lib.hid (HL.out.grow hg7)
                have HK7 := Lib.hid (HK.out.later hg7)
                have hll : s.all.length = nt := by rw [HNT.out]; exact HP.out.si.alen
                have hnt60 : nt ≤ 60 := by rw [HNT.out]; have := HP.out.len; omega
                have HLL := Lib.hid hll
                have hw2 : IntKind.i64.wrap ((nl : Int) + (nt : Int)) = (nl : Int) + (nt : Int) := by rw [IntKind.wrap_i64] <;> omega
                clear hz7 hr7 hg7 hnl hll HK HL hin2
                go_wp2_with fail
                refine (len_ok HL7.out).mono ?_
                rintro e w' ⟨rfl, rfl⟩
                rw [HLL.out]
                go_wp2_with fail
                go_meet
                exact ⟨nl + nt, s, th, im, T, by simp, by omega, ⟨_, _, by rw [HNT.out]⟩, HK7, Lib.hid ⟨HP.out.si, HP.out.av, by have := HP.out.len; omega, HP.out.iml, fun _ => ⟨s, zs, th, 0, 0, HRI.out.nodup, DInv.start HRI.out HP.out.si.hdr, rfl, by rw [← HNL.out, ← HNT.out]⟩⟩⟩
              | false =>
                have hin2 : i ≠ n := by have := HEN.out; simp at this; omega
                have hlt : i < n := by omega
                obtain ⟨x, hx⟩ : ∃ x, l[i]? = some x := ⟨l[i]'(by rw [← HN.out]; exact hlt), by simp⟩
                have HAw := Lib.hid (HA.out.grow HK.out.grow)
                obtain ⟨ga, oa, rfl, hga, hr, hav⟩ := (show ASee _ (.slice a n cap) l from HAw.out).at_ hx
                have HX := Lib.hid hx
                have HR := Lib.hid hr
                have HGA := Lib.hid hga
                have HAV := Lib.hid hav
                have q0 : wr.cell? ⟨ga, oa + i * 6, none⟩ = some (.bool x.did) := hr 0 _ rfl
                obtain ⟨dd, hdd⟩ : ∃ dd, x.did = dd := ⟨_, rfl⟩
                rw [hdd] at q0
                have b0 : (0 : Int) ≤ (i : Int) := by omega
                have b1 : (i : Int) < (n : Int) := by omega
                clear hx hr hga hav hdd hin2
                cases dd with
                | true =>
                  go_wp2_with fail
                  go_meet
                  exact ⟨1, s, th, im, T, rfl, by omega, ⟨_, _, by rw [HNT.out]⟩, HK, Lib.hid ⟨HP.out.si, HP.out.av, by have := HP.out.len; omega, HP.out.iml, fun e => absurd e (by omega)⟩⟩
                | false =>
                  obtain ⟨ac, cc, hvc⟩ := HAV.out.cs.len
                  obtain ⟨ar, cr, hvr⟩ := HAV.out.rs.len
                  have hsm := HS.out.2 x (List.mem_of_getElem? HX.out)
                  have HSM2 := Lib.hid hsm
                  have HLEN := Lib.hid (show s.all.length + 1 ≤ 1000 by rw [HP.out.si.alen]; have := HP.out.len; omega)
                  obtain ⟨b, hb⟩ : ∃ b : Bool, (b = true ↔ mayP g s x.seq x.cs x.rs x.start x.count) := by
                    by_cases hc : mayP g s x.seq x.cs x.rs x.start x.count
                    · exact ⟨true, ⟨fun _ => hc, fun _ => rfl⟩⟩
                    · exact ⟨false, ⟨fun h => (by cases h), fun h => absurd h hc⟩⟩
                  have HBB := Lib.hid hb
                  obtain ⟨va, xs, hls⟩ := HK.out.ls
                  have HQ1 := Lib.hid (show wr.cell? ⟨ga, oa + i * 6 + 1, none⟩ = some (.int .u32 (x.seq : Int)) from HR.out 1 _ rfl)
                  have HQ2 := Lib.hid (show wr.cell? ⟨ga, oa + i * 6 + 1 + 1, none⟩ = some (.slice ac x.cs.length cc) from (HR.out 2 _ rfl).trans (by rw [hvc]))
                  have HQ3 := Lib.hid (show wr.cell? ⟨ga, oa + i * 6 + 1 + 2, none⟩ = some (.slice ar x.rs.length cr) from (HR.out 3 _ rfl).trans (by rw [hvr]))
                  have HQ4 := Lib.hid (show wr.cell? ⟨ga, oa + i * 6 + 4, none⟩ = some (.int .i64 x.start) from HR.out 4 _ rfl)
                  have HQ5 := Lib.hid (show wr.cell? ⟨ga, oa + i * 6 + 5, none⟩ = some (.int .i64 x.count) from HR.out 5 _ rfl)
                  have HADD := Lib.hid (show ∀ w', Grow wr w' → Calls Try.prog 12 #[.pointer (some ⟨B, 0, none⟩), .agg #[.int .u32 (x.seq : Int), .slice ac x.cs.length cc, .slice ar x.rs.length cr], .int .i64 x.start, .int .i64 x.count] w' (AddPost B g (addS b s x.seq x.cs x.rs x.start x.count) (addE b) T w') from fun w' hg => by
                    refine add_ok (hls.grow hg) (fun q hq => Nat.lt_of_lt_of_le (HK.out.lo q hq).2.1 hg.size) HM.out (by rw [← hvc]; exact (HAV.out.cs.grow hg)) (by rw [← hvr]; exact (HAV.out.rs.grow hg)) hsm.1 hsm.2 HAV.out.seq HAV.out.start HAV.out.count (fun q hq hz => ?_) HLEN.out hb
                    have hin := (HA.out.2 x (List.mem_of_getElem? HX.out)).rs.lt hz (k := q) (by rw [hvr]; exact hq)
                    refine ⟨fun hm => ?_, Nat.lt_of_lt_of_le hin (Nat.le_trans HK.out.grow.size hg.size)⟩
                    have := (HK.out.lo q hm).1
                    omega)
                  have HO3 := Lib.hid (show ∀ u ∈ tcell x, u.oneCell' = true from fun u hu => by
                    unfold tcell at hu
                    simp only [hvc, hvr, List.mem_cons, List.not_mem_nil, or_false] at hu
                    rcases hu with rfl | rfl | rfl <;> rfl)
                  have HTC := Lib.hid (show tcell x = [.int .u32 (x.seq : Int), .slice ac x.cs.length cc, .slice ar x.rs.length cr] by unfold tcell; rw [hvc, hvr])
                  have HBS := Lib.hid (buildSlice_t x)
                  obtain ⟨nc, hnc⟩ : ∃ nc, x.cs.length = nc := ⟨_, rfl⟩
                  obtain ⟨nr, hnr⟩ : ∃ nr, x.rs.length = nr := ⟨_, rfl⟩
                  rw [hnc] at HQ2 HADD HTC
                  rw [hnr] at HQ3 HADD HTC
                  clear hvc hvr hsm hb hls hnc hnr
                  go_upto_region 16 with (fail)
                  refine same_reg16 B ga oa n cap i x.seq nc cc nr cr ac ar x.start x.count g s T va xs x.cs x.rs b wr (Lib.hid hlt) HGA HQ1 HQ2 HQ3 HQ4 HQ5 HADD _ _ _ _ _ _ _ _ _ _ _ _ _ _ _ _ _ _ _ _ _ _ _ _ _ _ _ _ _ _ _ _ _ _ _ _ _ _ _ _ _ _ _ _ _ _ _ _ _ _ _ _ _ _ _ _ _ _ _ _ _ _ _ _ _ _ _ _ _ _ _ _ _ _ _ _ _ _ _ _ _ _ _ _ _ _ _ _ _ _ _ _ _ _ _ _ _ _ _ _ _ _ _ _ _ _ _ _ _ _ _ _ _ _ _ _ _ _ _ _ _ _ _ _ _ _ _ _ _ _ _ _ _ _ _ _ _ _ _ _ _ _ _ _ _ _ _ _ _ _ _ _ _ _ _ _ _ _ _ _ _ _ _ _ _ _ _ _ _ _ _ _ _ _ _ _ _ _ _ _ _ _ _ _ _ _ _ _ _ _ _ (Lib.hid ?hk16)
                  intro u63 u64 u65 u66 u67 u68 u69 u70 u71 u72 u73 u74 u75 u76 u77 u78 u79 w2 T' va' xs' hl2 hT2 hTl2 ht2
                  have HK2 := Lib.hid (HK.out.added ⟨_, _, hl2⟩ hT2 hTl2 ht2)
                  have HOK2 := Lib.hid hl2.oks
                  clear hl2 hT2 hTl2 ht2 q0
                  cases b with
                  | false =>
                    have HSE := Lib.hid (show addS false s x.seq x.cs x.rs x.start x.count = s from rfl)
                    go_wp2_with fail
                    go_meet
                    exact ⟨0, s, th, im, T', rfl, by omega, ⟨_, _, by rw [HNT.out]⟩, by rw [← HSE.out]; exact HK2, Lib.hid ⟨HP.out.si, HP.out.av, by have := HP.out.len; omega, HP.out.iml, fun e => absurd e (by omega)⟩⟩
                  | true =>
                    have HSE := Lib.hid (show addS true s x.seq x.cs x.rs x.start x.count = addC s x.seq x.cs x.rs x.start x.count from rfl)
                    have hr1 := (HA.out.grow HK2.out.grow).at_ HX.out
                    obtain ⟨ga', oa', he', hga2, hr2, _⟩ := hr1
                    cases he'
                    have j1 : w2.cell? ⟨ga, oa + i * 6 + 1, none⟩ = some (.int .u32 (x.seq : Int)) := hr2 1 _ rfl
                    have j2 : w2.cell? ⟨ga, oa + i * 6 + 1 + 1, none⟩ = some (.slice ac nc cc) := (hr2 2 _ rfl).trans (congrArg some (show x.vc = _ by have := HTC.out; unfold tcell at this; simp at this; exact this.1))
                    have j3 : w2.cell? ⟨ga, oa + i * 6 + 1 + 2, none⟩ = some (.slice ar nr cr) := (hr2 3 _ rfl).trans (congrArg some (show x.vr = _ by have := HTC.out; unfold tcell at this; simp at this; exact this.2))
                    have HMP := Lib.hid (HBB.out.1 rfl)
                    have HBS2 := Lib.hid (show ∀ w : World, (Instr.buildSlice 51 1 #[(0, .agg #[.int .u32 (x.seq : Int), .slice ac nc cc, .slice ar nr cr])]).run Try.prog w = .ok (.slice (some ⟨w.heap.size, 0, none⟩) 1 1) (w.alloc (.cells (tcell x).toArray 39)) from fun w => by rw [show (#[.int .u32 (x.seq : Int), .slice ac nc cc, .slice ar nr cr] : Array Value) = (tcell x).toArray by rw [HTC.out]]; exact HBS.out w)
                    obtain ⟨i0, hi0, hy0, hy1, hy2⟩ := info_parts info39
                    have HI0 := Lib.hid hi0
                    have hnt60 : nt ≤ 60 := by rw [HNT.out]; have := HP.out.len; omega
                    have HNT6 := Lib.hid hnt60
                    clear hr2 hga2 hi0
                    go_wp2_with (first | (refine wpList_buildSlice rfl 51 1 _ rfl (by simp only [List.map_toArray, List.map_cons, List.map_nil]; exact HBS2.out _) ?_) | (at_builtin; go_loud (refine wpList_append_g rfl _ _ 51 rfl 39 i0 (.agg #[.int .u32 0, .slice none 0 0, .slice none 0 0]) 3 56 Try.underlying51 HI0.out hy0 hy1 hy2 rfl (by omega) (.slice a8 nt c8) (th.map tcell) rfl (HK2.out.tr.grow (Grow.alloc _ _)) _ 1 (tcell x) rfl rfl (new_cells _ _ _) HO3.out (by rw [List.length_map, ← HNT.out]; have := HNT6.out; omega) (by omega) ?_); intro v' wa happ hown htch))
                    obtain ⟨a10, c10, hv10⟩ := GRow.len happ
                    have HK3 := Lib.hid ((HK2.out.later (Grow.alloc w2 (.cells (tcell x).toArray 39))).push happ hown htch)
                    have HP3 := Lib.hid (show SmP g l nb (i + 1) n 0 0 (addC s x.seq x.cs x.rs x.start x.count) (th ++ [x]) im from ⟨HP.out.si.add x (rise_of HMP.out.cs).2 (by rw [← HSE.out]; exact HOK2.out), fun y hy => by
                        rcases List.mem_append.1 hy with h1 | h1
                        · exact HP.out.av y h1
                        · rw [List.mem_singleton.1 h1]; exact List.mem_of_getElem? HX.out, by rw [List.length_append]; have := HP.out.len; simp; omega, HP.out.iml, fun e => absurd e (by omega)⟩)
                    have hv10' : v' = .slice a10 (th ++ [x]).length c10 := by rw [hv10]; simp
                    clear happ hown htch hv10
                    go_wp2_with fail
                    go_meet
                    exact ⟨0, _, th ++ [x], im, T', rfl, by omega, ⟨_, _, hv10'⟩, by rw [← HSE.out]; exact HK3, HP3⟩
            case rest =>
              obtain ⟨S, s1, th1, im1, T1, rfl, hS, ⟨a8', c8', rfl⟩, HK1, HP1⟩ := hcut
              clear HK HP HE HNT
              go_wp2_with fail
              go_loopw [8, 12] (fun t8 t12 wr => ∃ (k : Nat) (s : CS) (th : List AV) (im : List Blk) (T : List Nat), t12 = .int .i64 (k : Int) ∧ k ≤ S ∧ (∃ a c, t8 = .slice a th.length c) ∧ Hid (SmMem g W B IB HB nb s th im T t8 wr) ∧ Hid (SmP g l nb (i + 1) n k S s th im)) (fun _ t12 _ => S - (intOf t12).toNat)
              case atStart => exact ⟨0, _, th1, im1, T1, by go_num, by omega, ⟨_, _, rfl⟩, HK1, HP1⟩
              case round =>
                clear HK1 HP1
                obtain ⟨k, s, th, im, T, rfl, hkS, ⟨a8, c8, rfl⟩, HK, HP⟩ := hrel
                obtain ⟨nt, hnt⟩ : ∃ nt, nt = th.length := ⟨_, rfl⟩
                rw [← hnt] at HK ⊢
                have HNT := Lib.hid hnt
                clear hnt
                rename World => wq
                by_cases hk : k < S
                · go_wp2_with fail
                  refine (recover_ok HK.out.row (HK.out.see HA.out HP.out.av) (by rw [HP.out.iml]; exact hnb0) (by rw [HP.out.iml]; omega) (by have := HP.out.len; omega) (fun y hy => HS.out.2 y (HP.out.av y hy))).mono ?_
                  intro e w3 hp
                  obtain ⟨vw, rfl, hgi⟩ := hp
                  have HWL := Lib.hid (show ∀ q, vw.ownBlock = some q → q ∉ T ∧ q ≠ IB from fun q hq => by
                    have h1 := hgi.lo q hq
                    have h2 := HK.out.iblt
                    exact ⟨fun hm => by have := (HK.out.lo q hm).2.1; omega, by omega⟩)
                  have HW3 := Lib.hid hgi.row
                  have HK3 := Lib.hid (HK.out.later hgi.grow)
                  obtain ⟨va, xs, hls⟩ := HK3.out.ls
                  have HL3 := Lib.hid hls
                  have HNX := Lib.hid (show Calls Try.prog 19 #[.pointer (some ⟨B, 0, none⟩), .agg #[.int .u32 0, .int .i64 0], .int .u32 99] w3 fun e w' => e = .returned (.agg (scell (nextC s 0 0 99)).toArray) ∧ Grow w3 w' from next_ok hls 0 99 0)
                  have c0 : w3.cell? ⟨HB, 0, none⟩ = some (.int .u32 0) := cell_at HK3.out.hd 0
                  have c1 : w3.cell? ⟨HB, 1, none⟩ = some (.int .i64 0) := cell_at HK3.out.hd 1
                  have HNL0 := Lib.hid (next_len hls.oks 0 99 0)
                  have HSY := Lib.hid (HSz.out _ HNL0.out)
                  have HSY0 := Lib.hid (HSz0.out _ HNL0.out)
                  have HOS := Lib.hid (sone (nextC s 0 0 99))
                  obtain ⟨Y, hY⟩ : ∃ Y, (scell (nextC s 0 0 99)).toArray = Y := ⟨_, rfl⟩
                  rw [hY] at HNX HSY HSY0 HOS
                  have HYe := Lib.hid hY
                  clear hgi hls hY
                  go_wp2_with fail
                  refine HNX.out.mono ?_
                  intro e w5 hp
                  obtain ⟨rfl, hg5⟩ := hp
                  have HG5 := Lib.hid hg5
                  clear hg5 c0 c1 HNX
                  go_upto_region 24 with (refine wpList_store_row rfl 57 _ _ rfl w5.heap.size Y rfl rfl 57 Z57 (heap_alloc_last _ _) HSY.out HSY0.out HOS.out ?_)
                  have HY6 := Lib.hid (show ((w5.alloc (.cells Z57 57)).setRow w5.heap.size Y).heap[w5.heap.size]? = some (.cells Y 57) from setRow_heap _ _ _ _ _ _ (heap_alloc_last _ _))
                  have HG6 := Lib.hid (show Grow w3 ((w5.alloc (.cells Z57 57)).setRow w5.heap.size Y) from below_setRow (HG5.out.trans (Grow.alloc _ _)) HG5.out.size _)
                  generalize (w5.alloc (.cells Z57 57)).setRow w5.heap.size Y = w6 at *
                  have HN3 := Lib.hid (show w3.heap.size ≤ w5.heap.size from HG5.out.size)
                  obtain ⟨N, hN⟩ : ∃ N, N = w5.heap.size := ⟨_, rfl⟩
                  rw [← hN] at HY6 HN3 ⊢
                  have HK6 := Lib.hid (HK3.out.later HG6.out)
                  have HW6 := Lib.hid (HW3.out.grow HG6.out)
                  obtain ⟨va6, xs6, hls6⟩ := HK6.out.ls
                  have HDD := Lib.hid (show Calls Try.prog 20 #[.pointer (some ⟨B, 0, none⟩), .agg #[.int .u32 0, .int .i64 0], .int .u32 99] w6 fun e w' => e = .returned (.int .i64 (didC s).1) ∧ (∃ va xs, LSt w' B g (didC s).2 T va xs) ∧ Touch T w6 w' from did_ok hls6 0 99 0)
                  have HNT6 := Lib.hid (show N ∉ T from fun hm => by have := (HK3.out.lo _ hm).2.1; have := HN3.out; omega)
                  have HNI := Lib.hid (show N ≠ IB from fun e => by have := HK3.out.iblt; have := HN3.out; omega)
                  have HN6 := Lib.hid (Array.getElem?_eq_some_iff.1 HY6.out).1
                  have c0 : w6.cell? ⟨HB, 0, none⟩ = some (.int .u32 0) := cell_at HK6.out.hd 0
                  have c1 : w6.cell? ⟨HB, 1, none⟩ = some (.int .i64 0) := cell_at HK6.out.hd 1
                  clear hls6 hN HG5 HG6 HN3 HK HK3 HL3 HSY HSY0 HOS HW3
                  go_wp2_with fail
                  refine HDD.out.mono ?_
                  intro e w7 hp
                  obtain ⟨rfl, hls7, ht7⟩ := hp
                  have HK7 := Lib.hid (HK6.out.did hls7 ht7)
                  have HW7 := Lib.hid (show BRow w7 vw (recov th im) from Row.kept HW6.out ht7 (fun q hq => (HWL.out q hq).1))
                  have HY7 := Lib.hid (show w7.heap[N]? = some (.cells (scell (nextC s 0 0 99)).toArray 57) by rw [HYe.out]; exact (ht7.block N HN6.out HNT6.out).trans HY6.out)
                  have HN7 := Lib.hid (Array.getElem?_eq_some_iff.1 HY7.out).1
                  clear hls7 ht7 c0 c1 HY6 HK6 HW6 HDD HN6 HNT6 HYe
                  have h0 := (cell_at HY7.out 0).trans (snth (nextC s 0 0 99)).1
                  cases hs : s.all with
                  | nil =>
                    have HNN := Lib.hid (HP.out.none hs hk)
                    rw [show nextC s 0 0 99 = zeroS by unfold nextC; rw [hs]] at h0
                    have HDE := Lib.hid (show didC s = (2, s) by unfold didC; rw [hs])
                    rw [HDE.out] at HK7
                    rw [show (didC s).1 = 2 by rw [HDE.out]]
                    have k0 : w7.cell? ⟨N, 0, none⟩ = some (.int .u8 0) := h0
                    obtain rfl : nt = 0 := by rw [HNT.out, HNN.out.1]; rfl
                    clear h0 hs
                    go_wp2_with fail
                    go_roundw
                    case rel => exact ⟨k + 1, s, th, im, T, by go_num, by omega, ⟨_, _, by rw [HNN.out.1]; rfl⟩, HK7, Lib.hid (HP.out.again _ _ HNN.out.2)⟩
                    case measure => simp [intOf]; omega
                  | cons t r =>
                    have hnt0 : 0 < nt := by rw [HNT.out, ← HP.out.si.alen, hs]; simp
                    have d2 : ((nt : Int) == 0) = false := by simp; omega
                    cases hlf : t.left with
                    | cons c lf =>
                      obtain ⟨b, X, hcb, hbn, hX, hXl, hP', hrec, hnx, hdc⟩ := HP.out.write hs hlf HNB.out
                      have HPz := Lib.hid hP'
                      have HREC := Lib.hid hrec
                      have HXl := Lib.hid hXl
                      rw [hnx] at HY7 h0
                      rw [hdc] at HK7
                      rw [show (didC s).1 = 0 by rw [hdc]]
                      rw [hcb] at HPz
                      have k0 : w7.cell? ⟨N, 0, none⟩ = some (.int .u8 1) := h0
                      have k1 : w7.cell? ⟨N, 1, none⟩ = some (.int .i64 (b : Int)) := (cell_at HY7.out 1).trans (snth _).2
                      have HRX := Lib.hid (show w7.rangeAt N 2 (bc X) from srange HY7.out)
                      have HTH := Lib.hid (show w7.there IB (b * 256) (bc X).toArray.size by
                        rw [show (bc X).toArray.size = 256 by rw [List.size_toArray, bc_length, HXl.out]]
                        exact Row.there HK7.out.row (by rw [List.length_map, HP.out.iml]; exact hbn))
                      have HKz := Lib.hid (HK7.out.store HXl.out (b := b) (by rw [HP.out.iml]; exact hbn))
                      have HWZ := Lib.hid (show BRow (w7.setCells IB (b * 256) (bc X)) vw (recov th im) from Row.kept HW7.out (touch_setCells (S := [IB]) (by simp) _ _ _) (fun q hq hm => (HWL.out q hq).2 (List.mem_singleton.1 hm)))
                      have b2 : (0 : Int) ≤ (b : Int) := by omega
                      have b3 : (b : Int) < (nb : Int) := by omega
                      have d3 : decide ((b : Int) < 0) = false := decide_eq_false (by omega)
                      have d4 : decide ((b : Int) ≥ (nb : Int)) = false := decide_eq_false (by omega)
                      clear h0 hs hlf hcb hX hXl hP' hrec hnx hdc HY7
                      go_upto_region 37 with (first | (refine wpList_load_mid rfl 33 _ rfl N 2 rfl (bc X) _ HRX.out Try.underlying33 rfl (bsizeL HXl.out) ?_) | (refine wpList_store_mid rfl 33 _ _ rfl IB (b * 256) (bc X).toArray rfl rfl HTH.out (bsize HXl.out) (all_oneCell_toArray (bc_one _)) ?_))
                      clear k0 k1 HRX HTH HK7 HW7
                      generalize w7.setCells IB (b * 256) (bc X) = w9 at *
                      go_wp2_with fail
                      refine (recover_ok HKz.out.row (HKz.out.see HA.out HPz.out.av) (by rw [HPz.out.iml]; exact hnb0) (by rw [HPz.out.iml]; omega) (by have := HPz.out.len; omega) (fun y hy => HS.out.2 y (HPz.out.av y hy))).mono ?_
                      intro e w10 hp
                      obtain ⟨v10, rfl, hgi⟩ := hp
                      have HGI := Lib.hid hgi
                      clear hgi
                      go_wp2_with fail
                      refine (same_yes (show BRow w10 v10 (recov th im) by rw [← HREC.out]; exact HGI.out.row) (HWZ.out.grow HGI.out.grow) (by rw [recov_len, HP.out.iml]; omega)).mono ?_
                      intro e w11 hp
                      obtain ⟨rfl, hg11⟩ := hp
                      have HK11 := Lib.hid (HKz.out.later (HGI.out.grow.trans hg11))
                      clear hg11
                      go_wp2_with fail
                      go_roundw
                      case rel => exact ⟨k + 1, _, th, _, T, by go_num, by omega, ⟨_, _, by rw [HNT.out]⟩, HK11, HPz⟩
                      case measure => simp [intOf]; omega
                    | nil =>
                      obtain ⟨x, q, rfl, hP', hrec, hdc, hcase⟩ := HP.out.head hs hlf
                      have HPz := Lib.hid hP'
                      have HREC := Lib.hid hrec
                      rw [hdc] at HK7
                      rw [show (didC s).1 = 0 by rw [hdc]]
                      have HKz := Lib.hid HK7.out.tail
                      have HSB : Hid (1 ≤ nt) := Lib.hid hnt0
                      obtain ⟨i0, hi0, hy0, hy1, hy2⟩ := info_parts info39
                      have HI0 := Lib.hid hi0
                      obtain ⟨a9, c9, hv9⟩ := GRow.len HKz.out.tr
                      obtain ⟨VS, hVS⟩ : ∃ VS, sliced a8 1 nt c8 3 = VS := ⟨_, rfl⟩
                      have HVS := Lib.hid hVS
                      rw [hVS] at HKz hv9
                      rw [List.length_map] at hv9
                      have HWZ := Lib.hid HW7.out
                      have HCASE := Lib.hid hcase
                      have k0 : w7.cell? ⟨N, 0, none⟩ = some (.int .u8 2) := by
                        rcases hcase with ⟨_, h⟩ | ⟨y, q', hst, _, h⟩ <;> rw [h] at h0 <;> exact h0
                      have HK0 := Lib.hid k0
                      clear h0 hs hlf hP' hrec hdc hi0 hcase hVS HK7 HW7
                      subst hv9
                      go_upto_region 35 with (refine wpList_slice_l rfl 51 39 _ _ rfl elem51 Try.underlying51 i0 HI0.out 3 hy1 a8 nt c8 1 rfl rfl HSB.out ?_; rw [HVS.out])
                      rcases HCASE.out with ⟨hq, hnx⟩ | ⟨y, q', hst, hq, hnx⟩
                      · subst hq
                        have HS5 := Lib.hid (show N < w7.heap.size ∧ w7.cell? ⟨N, 258, none⟩ = some (.int .u32 99) from ⟨HN7.out, by rw [hnx] at HY7; exact (cell_at HY7.out 258).trans (snth2 (s := ⟨2, 0, zeroB, 99, 0, t.count⟩) zeroB_ok).1⟩)
                        have HS6 := Lib.hid (show N < w7.heap.size ∧ w7.cell? ⟨N, 258 + 1, none⟩ = some (.int .i64 0) from ⟨HN7.out, by rw [hnx] at HY7; exact (cell_at HY7.out 259).trans (snth2 (s := ⟨2, 0, zeroB, 99, 0, t.count⟩) zeroB_ok).2.1⟩)
                        clear k0 hnx
                        refine same_reg35a a9 c9 N w7 (Lib.hid ⟨HN7.out, HK0.out⟩) HS5 HS6 (Lib.hid fun w => by rw [neqH]; rfl) _ _ _ _ _ _ _ _ _ _ _ _ _ _ _ _ _ _ _ _ _ _ _ _ _ _ _ _ _ _ _ _ _ _ _ _ _ _ _ _ _ _ _ _ _ _ _ _ _ _ _ _ _ _ _ _ _ _ _ _ _ _ _ _ _ _ _ _ _ _ _ _ _ _ _ _ _ _ _ _ _ _ _ _ _ _ _ _ _ _ _ _ _ _ _ _ _ _ _ _ _ _ _ _ _ _ _ _ _ _ _ _ _ _ _ _ _ _ _ _ _ _ _ _ _ _ _ _ _ _ _ _ _ _ _ _ _ _ _ _ _ _ _ _ _ _ _ _ _ _ _ _ _ _ _ _ _ _ _ _ _ _ _ _ _ _ _ _ _ _ _ _ _ _ _ _ _ _ _ _ _ _ _ _ _ _ _ _ _ _ _ _ (Lib.hid ?hk35a)
                        intro u141 u142 u143 u144 u145 u146 u147 u148 u149 u150 u151 u152 u153 u154 u155 u156 u157 u158 u159 u160 u161 u162 u163 u164 u165 u166 u167 u168 w9 hR9
                        have HKz := Lib.hid (HKz.out.later (hR9.below (Nat.le_refl _) (by simp)))
                        have HWZ := Lib.hid (HWZ.out.grow (hR9.below (Nat.le_refl _) (by simp)))
                        clear hR9
                        go_wp2_with fail
                        refine (recover_ok HKz.out.row (HKz.out.see HA.out HPz.out.av) (by rw [HPz.out.iml]; exact hnb0) (by rw [HPz.out.iml]; omega) (by have := HPz.out.len; omega) (fun y hy => HS.out.2 y (HPz.out.av y hy))).mono ?_
                        intro e w10 hp
                        obtain ⟨v10, rfl, hgi⟩ := hp
                        have HGI := Lib.hid hgi
                        clear hgi
                        go_wp2_with fail
                        refine (same_yes (show BRow w10 v10 (recov [x] im) by rw [← HREC.out]; exact HGI.out.row) (HWZ.out.grow HGI.out.grow) (by rw [recov_len, HP.out.iml]; omega)).mono ?_
                        intro e w11 hp
                        obtain ⟨rfl, hg11⟩ := hp
                        have HK11 := Lib.hid (HKz.out.later (HGI.out.grow.trans hg11))
                        clear hg11
                        go_wp2_with fail
                        go_roundw
                        case rel => exact ⟨k + 1, _, [], im, T, by go_num, by omega, ⟨_, _, rfl⟩, HK11, HPz⟩
                        case measure => simp [intOf]; omega
                      · subst hq
                        obtain ⟨g9, o9, he9, hg9, hr9, _⟩ := (HKz.out.see HA.out HPz.out.av).at_ (k := 0) rfl
                        subst he9
                        have HT0 := Lib.hid (show g9 < w7.heap.size ∧ w7.cell? ⟨g9, o9, none⟩ = some (.int .u32 (y.seq : Int)) from ⟨hg9, by have := hr9 0 _ rfl; rwa [Nat.zero_mul, Nat.add_zero] at this⟩)
                        have HS5 := Lib.hid (show N < w7.heap.size ∧ w7.cell? ⟨N, 258, none⟩ = some (.int .u32 (y.seq : Int)) from ⟨HN7.out, by rw [hnx] at HY7; exact (cell_at HY7.out 258).trans (snth2 (s := ⟨2, 0, zeroB, y.seq, hst, t.count⟩) zeroB_ok).1⟩)
                        clear k0 hnx hg9 hr9
                        refine same_reg35b g9 o9 (y :: q').length c9 N y.seq w7 (Lib.hid (by simp)) (Lib.hid ⟨HN7.out, HK0.out⟩) HS5 HT0 _ _ _ _ _ _ _ _ _ _ _ _ _ _ _ _ _ _ _ _ _ _ _ _ _ _ _ _ _ _ _ _ _ _ _ _ _ _ _ _ _ _ _ _ _ _ _ _ _ _ _ _ _ _ _ _ _ _ _ _ _ _ _ _ _ _ _ _ _ _ _ _ _ _ _ _ _ _ _ _ _ _ _ _ _ _ _ _ _ _ _ _ _ _ _ _ _ _ _ _ _ _ _ _ _ _ _ _ _ _ _ _ _ _ _ _ _ _ _ _ _ _ _ _ _ _ _ _ _ _ _ _ _ _ _ _ _ _ _ _ _ _ _ _ _ _ _ _ _ _ _ _ _ _ _ _ _ _ _ _ _ _ _ _ _ _ _ _ _ _ _ _ _ _ _ _ _ _ _ _ _ _ _ _ _ _ _ _ _ _ _ _ (Lib.hid ?hk35b)
                        intro u141 u142 u143 u144 u145 u146 u147 u148 u149 u150 u151 u152 u153 u154 u155 u156 u157 u158 u159 u160 u161 u162 u163 u164 u165 u166 u167 u168 w9 hR9
                        have HKz := Lib.hid (HKz.out.later (hR9.below (Nat.le_refl _) (by simp)))
                        have HWZ := Lib.hid (HWZ.out.grow (hR9.below (Nat.le_refl _) (by simp)))
                        clear hR9
                        go_wp2_with fail
                        refine (recover_ok HKz.out.row (HKz.out.see HA.out HPz.out.av) (by rw [HPz.out.iml]; exact hnb0) (by rw [HPz.out.iml]; omega) (by have := HPz.out.len; omega) (fun y hy => HS.out.2 y (HPz.out.av y hy))).mono ?_
                        intro e w10 hp
                        obtain ⟨v10, rfl, hgi⟩ := hp
                        have HGI := Lib.hid hgi
                        clear hgi
                        go_wp2_with fail
                        refine (same_yes (show BRow w10 v10 (recov (x :: y :: q') im) by rw [← HREC.out]; exact HGI.out.row) (HWZ.out.grow HGI.out.grow) (by rw [recov_len, HP.out.iml]; omega)).mono ?_
                        intro e w11 hp
                        obtain ⟨rfl, hg11⟩ := hp
                        have HK11 := Lib.hid (HKz.out.later (HGI.out.grow.trans hg11))
                        clear hg11
                        go_wp2_with fail
                        go_roundw
                        case rel => exact ⟨k + 1, _, (y :: q'), im, T, by go_num, by omega, ⟨_, _, rfl⟩, HK11, HPz⟩
                        case measure => simp [intOf]; omega
                · obtain rfl : k = S := by omega
                  have HE2 := Lib.hid (show i + 1 = n + 1 → s.all = [] from fun e => HP.out.done rfl e)
                  have HP2 := Lib.hid (show SmP g l nb (i + 1) n 0 0 s th im from ⟨HP.out.si, HP.out.av, HP.out.len, HP.out.iml, fun e => ⟨s, [], th, 0, 0, List.nodup_nil, ⟨HP.out.si.hdr, Nat.zero_le _, rfl, fun z hz => by rw [HE2.out e] at hz; cases hz⟩, rfl, by rw [show th = [] from List.eq_nil_of_length_eq_zero (by rw [← HP.out.si.alen, HE2.out e]; rfl)]; rfl⟩⟩)
                  go_wp2_with fail
                  go_roundw
                  case rel => exact ⟨i + 1, s, th, im, T, by go_num, by omega, ⟨_, _, by rw [HNT.out]⟩, HK, HP2, HE2⟩
                  case measure => simp [intOf]; omega
          · obtain rfl : i = n + 1 := by omega
            have HSN := Lib.hid (HE.out rfl)
            have HTH := Lib.hid (show th = [] from List.eq_nil_of_length_eq_zero (by rw [← HP.out.si.alen, HSN.out]; rfl))
            obtain ⟨va, xs, hls⟩ := HK.out.ls
            have HL := Lib.hid hls
            have HLN := Lib.hid (show s.all.length = 0 by rw [HSN.out]; rfl)
            obtain rfl : nt = 0 := by rw [HNT.out, HTH.out]; rfl
            have HGK := Lib.hid HK.out.grow
            clear hls HK HP HE hi
            go_wp2_with fail
            refine (len_ok HL.out).mono ?_
            rintro e w' ⟨rfl, rfl⟩
            rw [HLN.out]
            go_wp2_with fail
            refine (left_ok HL.out).mono ?_
            intro e w7 hp
            unfold LeftPost at hp
            obtain ⟨v7, zs7, rfl, hz7, hr7, _, hg7, _⟩ := hp
            have hzn : zs7 = [] := by
              cases zs7 with
              | nil => rfl
              | cons z zs =>
                have := (hr7.mem z).1 (List.mem_cons_self ..)
                rw [HSN.out] at this
                cases this
            subst hzn
            obtain ⟨a7, c7, hv7⟩ := hz7.len
            have hv7' : v7 = .slice a7 0 c7 := hv7
            subst hv7'
            have HG7 := Lib.hid (HGK.out.trans hg7)
            clear hz7 hr7 hg7 hv7 HL
            go_wp2_with fail
            refine (HAW.out _).mono ?_
            intro e w8 hp
            obtain ⟨rfl, hg8⟩ := hp
            have HG8 := Lib.hid (HG7.out.trans hg8)
            clear hg8
            go_wp2_with fail
            go_ret
            exact ⟨rfl, HG8.out⟩
    · have HRM := Lib.hid (show ∀ w, Calls Try.prog 14 #[.agg #[.int .i64 g.gr, .int .i64 g.sz, .int .i64 g.ni, .int .i64 g.jr]] w fun e w' => e = .returned (.bool false) ∧ Grow w w' from fun w => Geo.rmay_no _ _ _ _ hM w)
      clear hM
      go_wp2_with fail
      refine (HRM.out _).mono ?_
      intro e w2 hp
      obtain ⟨rfl, hg2⟩ := hp
      have HG2 := Lib.hid (HG1.out.trans hg2)
      clear hg2 k0 k1 k2 k3
      go_wp2_with fail
      refine (HAW.out _).mono ?_
      intro e w4 hp
      obtain ⟨rfl, hg4⟩ := hp
      have HG4 := Lib.hid (HG2.out.trans hg4)
      clear hg4
      go_wp2_with fail
      go_ret
      exact ⟨rfl, HG4.out⟩
#print axioms same_walk
end Go.Proofs.Ytokehhegomiciaa
