/- The law CrcSums: the walk. -/
import Derived.Test.YtcodhmfmdjopeaaDoorW9
set_option linter.unusedVariables false
set_option linter.unusedSimpArgs false
namespace Go.Proofs.YtcodhmfmdjopeaaDoor
open Go.RowKit
open CrcPlain (sh shn tm steps one step run)

theorem info24 : (Tryd.prog.info? 24).map (fun i => (i.zero, i.size, i.bytes)) = some (some (.slice none 0 0), 1, 24) := by kernel_rfl
/-- rows of different element types lie in different blocks -/
theorem own_ne {w : World} {b b' : Nat} {e e' : TypeId} {s s' : Nat} {v v' : Value} {n n' : Nat} {xs xs' : List Value} (h : w.ownsRow b e s v n xs) (h' : w.ownsRow b' e' s' v' n' xs') (hne : e ≠ e') : v.ownBlock = none ∨ v.ownBlock ≠ v'.ownBlock := by
  rcases h.2 with ⟨rfl, _⟩ | ⟨g, cap, cur, rfl, _, hg, _⟩
  · exact .inl rfl
  · right
    rcases h'.2 with ⟨rfl, _⟩ | ⟨g', cap', cur', rfl, _, hg', _⟩
    · simp [Value.ownBlock]
    · intro he
      have : g = g' := by simpa [Value.ownBlock] using he
      subst this
      rw [hg] at hg'
      injection hg' with h1
      injection h1 with _ h2
      exact hne h2

theorem le_sum_of_mem' : ∀ {l : List Nat} {x : Nat}, x ∈ l → x ≤ l.sum := by
  intro l
  induction l with
  | nil => intro x h; cases h
  | cons y l ih =>
    intro x h
    simp only [List.sum_cons]
    rcases List.mem_cons.1 h with rfl | h
    · omega
    · have := ih h; omega

set_option maxRecDepth 100000 in
set_option maxHeartbeats 2000000 in
theorem sums_walk (A : Option Addr) (n c : Nat) (ps : List Piece) (w : World) (ht : Tab w) (hp : Pieces w A n ps) (hn : n ≤ 9223372036854775807) (hb : ∀ p ∈ ps, p.n ≤ 9223372036854775807) (hnil : ∀ p ∈ ps, p.A = none → p.c = 0)
    (hgt : (decide (100 < n) || greatFrom 20000 ps) = false) :
    Calls Tryd.prog 3 #[.slice A n c] w fun e w' => e = .returned (.bool true) ∧ Below w.heap.size w w' := by
  have hn100 : n ≤ 100 := by
    simp only [Bool.or_eq_false_iff, decide_eq_false_iff_not] at hgt; omega
  have hsum := great_small ps 20000 (by simp only [Bool.or_eq_false_iff] at hgt; exact hgt.2)
  have HT := Lib.hid ht
  have HP := Lib.hid hp
  have HG := Lib.hid hgt
  have HN := Lib.hid hnil
  have HBB := Lib.hid hb
  clear ht hp hgt hnil hb
  obtain ⟨i0, hi, hz0, hz1, hz2⟩ := info_parts info24
  have HI := Lib.hid hi
  have HZ0 := Lib.hid hz0
  have HZ1 := Lib.hid hz1
  have HZ2 := Lib.hid hz2
  clear hi hz0 hz1 hz2
  go_enter Tryd.func3, Tryd.ntmps3
  go_wp2_with fail
  refine (great_any A n c ps w HP.out hn HBB.out).mono ?_
  rintro e w' ⟨rfl, rfl⟩
  rw [HG.out]
  go_wp2_with fail
  go_loopw [3, 4] (fun v i wr => ∃ (k : Nat) (qs : List Piece), k ≤ n ∧ i = .int .i64 (k : Int) ∧ wr.ownsRow w.heap.size 24 1 v k (qs.map Piece.val) ∧ (∀ q ∈ qs, wr.ownsRow w.heap.size 5 1 q.val q.n (vs q.bs)) ∧
    qs.map Piece.bs = (ps.take k).map Piece.bs ∧ Below w.heap.size w wr) (fun _ i _ => n - (intOf i).toNat)
  case atStart => exact ⟨0, [], by omega, rfl, World.ownsRow_nil _ _ _ _, by simp, by simp, Below.refl _ _⟩
  case round =>
    obtain ⟨k, qs, hk, rfl, hown, hqs, hbs, hbw⟩ := hrel
    have HO := Lib.hid hown
    have HQS := Lib.hid hqs
    have HBS := Lib.hid hbs
    have HB := Lib.hid hbw
    clear hown hqs hbs hbw
    by_cases hlt : k < n
    · obtain ⟨ad, rfl, hc⟩ := HP.out.2.2 (by omega)
      have hcell := Ext.below HB.out _ _ (hc k hlt)
      have hl : k < ps.length := by rw [HP.out.1]; exact hlt
      have hmem : ps.getD k none_ ∈ ps := by
        rw [List.getD_eq_getElem?_getD, List.getElem?_eq_getElem hl]; exact List.getElem_mem hl
      have HQ := Lib.hid (Bytes.ext (HP.out.2.1 _ hmem) (Ext.below HB.out))
      have HNK := Lib.hid (HN.out _ hmem)
      have hpn : (ps.getD k none_).n ≤ 20000 := Nat.le_trans (le_sum_of_mem' (List.mem_map_of_mem hmem)) hsum
      have hsn := take_snoc ps k none_ hl
      have HA := Lib.hid (show (ps.take (k + 1)).map Piece.bs = (ps.take k).map Piece.bs ++ [(ps.getD k none_).bs] by rw [hsn]; simp)
      clear hc hl hmem hsn
      generalize ps.getD k none_ = p at *
      obtain ⟨pA, pn, pc, bs⟩ := p
      unfold Piece.val at hcell
      dsimp only at hcell hpn HQ HNK HA
      have hcell' : ∀ o : Obj, (wr.alloc o).cell? (ad.add k) = some (.slice pA pn pc) := fun o => Ext.alloc _ _ _ _ hcell
      clear hcell
      have M0 := Lib.hid (World.ownsRow_made (base := w.heap.size) (e := 5) (size := 1) wr #[] 0 HB.out.size (by unfold maxLen; omega) (by simp))
      go_wp2_with (at_builtin; refine append_piece rfl (.tmp 15) (.tmp 19) rfl w.heap.size _ 0 [] rfl M0.out pA pn pc bs rfl (Bytes.ext HQ.out (Ext.alloc _ _)) HNK.out ?c1 ?c2 ?_)
      case c1 => omega
      case c2 => simp; exact Nat.le_succ_of_le HB.out.size
      intro v1 w2 hown1 hgrow1 hat1
      replace hown1 : w2.ownsRow w.heap.size 5 1 v1 pn (vs bs) := by simpa [vs] using hown1
      have gr2 : Grow wr w2 := (Grow.alloc wr (Obj.cells #[] 5)).grown hgrow1 (by simp) (fun g hg => by simp [Value.ownBlock] at hg; omega)
      obtain ⟨A1, c1, hv1⟩ : ∃ A1 c1, v1 = .slice A1 pn c1 := by
        rcases hown1.2 with ⟨h1, h2⟩ | ⟨g, cap, cur, h1, _⟩
        · subst h2; exact ⟨_, _, h1⟩
        · exact ⟨_, _, h1⟩
      rw [hv1] at hown1 ⊢
      have mine2 := (own_grow HO.out gr2).alloc (Obj.cells #[Value.slice A1 pn c1] 24)
      have qs2 : ∀ q ∈ qs, (w2.alloc (Obj.cells #[Value.slice A1 pn c1] 24)).ownsRow w.heap.size 5 1 q.val q.n (vs q.bs) := fun q hq => (own_grow (HQS.out q hq) gr2).alloc _
      have q2 := hown1.alloc (Obj.cells #[Value.slice A1 pn c1] 24)
      have bw2 : Below w.heap.size w (w2.alloc (Obj.cells #[Value.slice A1 pn c1] 24)) := (HB.out.trans (Below.mono gr2 HB.out.size)).alloc (HB.out.trans (Below.mono gr2 HB.out.size)).size _
      have MI2 := Lib.hid mine2
      have QS2 := Lib.hid qs2
      have Q2 := Lib.hid q2
      have BW2 := Lib.hid bw2
      clear hown1 hgrow1 hat1 gr2 hv1 mine2 qs2 q2 bw2 hcell'
      go_wp2_with (at_builtin; refine wpList_append_own _ rfl (.tmp 14) (.tmp 21) 22 rfl w.heap.size 24 i0 (.slice none 0 0) 1 24 Tryd.underlying22 HI.out HZ0.out HZ1.out HZ2.out rfl (by decide) _ _ _ rfl MI2.out ⟨w2.heap.size, 0, none⟩ 1 1 [.slice A1 pn c1] rfl rfl ?d1 ?d2 ?d3 ?d4 ?d5 ?_)
      case d1 =>
        intro j u hu
        cases j with
        | zero => rw [add_zero_off, cell_new]; simp at hu; rw [← hu]; rfl
        | succ j => simp at hu
      case d2 => intro u hu; simp at hu; rw [hu]; rfl
      case d3 => unfold maxLen; omega
      case d4 => omega
      case d5 => exact BW2.out.size
      intro v2 w3 hown2 hgrow2 _
      have MI3 := Lib.hid hown2
      have QS3 := Lib.hid (fun q hq => (QS2.out q hq).kept hgrow2 (own_ne (QS2.out q hq) MI2.out (by decide)))
      have Q3 := Lib.hid (Q2.out.kept hgrow2 (own_ne Q2.out MI2.out (by decide)))
      have BW3 := Lib.hid (BW2.out.grown hgrow2 BW2.out.size (fun g hg => (MI2.out.lt g hg).1))
      clear hown2 hgrow2
      go_wp2_with fail
      go_roundw
      case rel =>
        refine ⟨k + 1, qs ++ [⟨A1, pn, c1, bs⟩], by omega, by go_num, ?_, ?_, ?_, BW3.out⟩
        · rw [List.map_append]; exact MI3.out
        · intro q hq
          rcases List.mem_append.1 hq with hq | hq
          · exact QS3.out q hq
          · rw [List.mem_singleton.1 hq]; exact Q3.out
        · rw [HA.out, List.map_append, HBS.out]; rfl
      case measure => simp only [intOf]; omega
    · obtain rfl : k = n := by omega
      have htk : ps.take k = ps := List.take_of_length_le (by rw [HP.out.1]; omega)
      have hbs : qs.map Piece.bs = ps.map Piece.bs := by have := HBS.out; rwa [htk] at this
      have hql : qs.length = k := by have := HO.out.1; simpa using this
      have hall : all qs = all ps := by unfold all; rw [List.flatMap_def, List.flatMap_def, hbs]
      -- the pieces of one's own
      have hqok : ∀ q ∈ qs, q.ok wr := fun q hq => by
        have h1 := HQS.out q hq
        have hsm : ∀ x ∈ q.bs, x < 256 := by
          have h2 : q.bs ∈ ps.map Piece.bs := by rw [← hbs]; exact List.mem_map_of_mem hq
          obtain ⟨p, hp, he⟩ := List.mem_map.1 h2
          rw [← he]; exact (HP.out.2.1 p hp).2.1
        obtain ⟨A', c', hv, hby⟩ := own_bytes h1 hsm
        have : q.A = A' := by unfold Piece.val at hv; injection hv
        unfold Piece.ok
        rw [this]; exact hby
      have hqn : ∀ q ∈ qs, q.n ≤ 20000 := fun q hq => by
        have h2 : q.bs ∈ ps.map Piece.bs := by rw [← hbs]; exact List.mem_map_of_mem hq
        obtain ⟨p, hp, he⟩ := List.mem_map.1 h2
        have h3 := (hqok q hq).1
        have h4 := (HP.out.2.1 p hp).1
        have h5 : p.n ≤ (ps.map Piece.n).sum := le_sum_of_mem' (List.mem_map_of_mem hp)
        rw [← he] at h3
        omega
      obtain ⟨mA, mc, hmv⟩ : ∃ mA mc, u3 = .slice mA k mc := by
        rcases HO.out.2 with ⟨h1, h2⟩ | ⟨g, cap, cur, h1, _⟩
        · subst h2; exact ⟨_, _, h1⟩
        · exact ⟨_, _, h1⟩
      have hmp : Pieces wr mA k qs := by
        refine ⟨hql, hqok, fun hpos => ?_⟩
        have ho := HO.out
        rcases ho.2 with ⟨_, h2⟩ | ⟨g, cap, cur, h1, _, hh, _, _, _, htake⟩
        · omega
        · rw [hmv] at h1
          injection h1 with h1
          refine ⟨_, h1, fun j hj => ?_⟩
          rw [add_zero_off]
          simp only [World.cell?, hh]
          show cur[j]? = _
          have h3 : (cur.toList.take (k * 1))[j]? = cur[j]? := by rw [List.getElem?_take_of_lt (by omega)]; simp
          rw [← h3, htake, List.getElem?_map, List.getD_eq_getElem?_getD]
          have : j < qs.length := by omega
          simp [this]
      rw [hmv]
      have HMP := Lib.hid hmp
      have HQN := Lib.hid hqn
      have HALL := Lib.hid hall
      have HBS2 := Lib.hid hbs
      have HPW := Lib.hid (HP.out.ext (Ext.below HB.out))
      clear htk hbs hql hall hqok hqn hmv hmp
      go_wp2_with fail
      refine (sum_to _ _ _ qs _ (HT.out.ext (Ext.below HB.out)) HMP.out (by omega) (fun q hq => by have := HQN.out q hq; omega)).mono ?_
      rintro e w' ⟨rfl, rfl⟩
      rw [HALL.out]
      go_wp2_with fail
      refine (all_any A k c ps wr HPW.out hn100 hsum HN.out).mono ?_
      rintro e w4 ⟨⟨v4, rfl, hown4⟩, hb4⟩
      have hsm4 : ∀ x ∈ all ps, x < 256 := fun x hx => by
        obtain ⟨p, hp, hxp⟩ := List.mem_flatMap.1 hx
        exact (HP.out.2.1 p hp).2.1 x hxp
      obtain ⟨A4, c4, hv4, hby4⟩ := own_bytes hown4 hsm4
      have hl4 : (all ps).length ≤ 20000 := by
        have := all_take_len ps w HP.out.2.1 k
        rw [List.take_of_length_le (by rw [HP.out.1]; omega)] at this
        omega
      rw [hv4]
      have HBY4 := Lib.hid hby4
      have HB4 := Lib.hid hb4
      clear hown4 hb4 hsm4 hv4 hby4
      generalize hL : (all ps).length = L at *
      have HL := Lib.hid hL
      clear hL
      go_wp2_with fail
      refine (rsum_any A4 L c4 (all ps) _ HBY4.out (by omega)).mono ?_
      rintro e w5 ⟨rfl, rfl⟩
      generalize hS : CrcPlain.sum (all ps) = S at *
      have hSS : (((S.toNat : Nat) : Int) != (S.toNat : Int)) = false := by simp
      clear hS
      unfold V
      go_wp2_with fail
      obtain ⟨wo, rfl⟩ : ∃ wo : World, wo = wr := ⟨_, rfl⟩
      go_loopw [5] (fun i wx => ∃ j : Nat, j ≤ k ∧ i = .int .i64 (j : Int) ∧ Grow w4 wx) (fun i _ => k - (intOf i).toNat)
      case atStart => exact ⟨0, by omega, rfl, Grow.refl _⟩
      case round =>
        obtain ⟨j, hj, rfl, hgr⟩ := hrel
        have HGR := Lib.hid hgr
        clear hgr
        by_cases hjl : j < k
        · obtain ⟨ad, rfl, hc⟩ := HPW.out.2.2 (by omega)
          obtain ⟨bd, rfl, hd⟩ := HMP.out.2.2 (by omega)
          have e4 : Ext wo wr := (Ext.below HB4.out).trans (Ext.below HGR.out)
          have CA := Lib.hid (e4 _ _ (hd j hjl))
          have CB := Lib.hid (e4 _ _ (hc j hjl))
          have hlp : j < ps.length := by rw [HPW.out.1]; exact hjl
          have hlq : j < qs.length := by rw [HMP.out.1]; exact hjl
          have mp : ps.getD j none_ ∈ ps := by rw [List.getD_eq_getElem?_getD, List.getElem?_eq_getElem hlp]; exact List.getElem_mem hlp
          have mq : qs.getD j none_ ∈ qs := by rw [List.getD_eq_getElem?_getD, List.getElem?_eq_getElem hlq]; exact List.getElem_mem hlq
          have hbe : (qs.getD j none_).bs = (ps.getD j none_).bs := by
            have h1 := congrArg (fun l => l[j]?) HBS2.out
            simp only [List.getElem?_map, List.getElem?_eq_getElem hlp, List.getElem?_eq_getElem hlq, Option.map_some, Option.some.injEq] at h1
            rw [List.getD_eq_getElem?_getD, List.getD_eq_getElem?_getD, List.getElem?_eq_getElem hlp, List.getElem?_eq_getElem hlq]
            exact h1
          have okp := Bytes.ext (HPW.out.2.1 _ mp) e4
          have okq := Bytes.ext (HMP.out.2.1 _ mq) e4
          have hqn := HQN.out _ mq
          have hnn : (qs.getD j none_).n = (ps.getD j none_).n := by rw [← okq.1, ← okp.1, hbe]
          rw [hbe] at okq
          rw [hnn] at okq hqn
          have vq : (qs.getD j none_).val = .slice (qs.getD j none_).A (ps.getD j none_).n (qs.getD j none_).c := by unfold Piece.val; rw [hnn]
          rw [vq] at CA
          have OKP := Lib.hid okp
          have OKQ := Lib.hid okq
          clear hc hd e4 hlp hlq mp mq hbe okp okq hnn vq
          generalize (qs.getD j none_).A = qA at *
          generalize (qs.getD j none_).c = qc at *
          generalize ps.getD j none_ = p at *
          obtain ⟨pA, pn, pc, bs⟩ := p
          unfold Piece.val at CB
          dsimp only at CA CB hqn OKP OKQ
          go_wp2_with fail
          refine wp_region_facts (by kernel_rfl) [[], [], [(0, some 35), (1, some 36)], [(2, some 37)], [], [], [(4, some 39), (5, some 40)], [(6, some 41)], [(3, some 38), (7, some 42)], [(8, some 43)]] [(0, some 35), (1, some 36), (2, some 37), (3, some 38), (4, some 39), (5, some 40), (6, some 41), (7, some 42), (8, some 43), (9, some 44)] (by kernel_rfl) (by kernel_rfl) (by kernel_rfl) (Grow) Grow.refl Grow.trans [Is (Value.slice (some bd) k mc), Is (Value.int .i64 (j : Int)), Is (Value.pointer (some (bd.add j))), Is (Value.slice qA pn qc), Is (Value.slice (some ad) k c), Is (Value.int .i64 (j : Int)), Is (Value.pointer (some (ad.add j))), Is (Value.slice pA pn pc), Is (Value.bool true), Is (Value.bool false)] rfl ⟨is_stab _ _, is_stab _ _, is_stab _ _, is_stab _ _, is_stab _ _, is_stab _ _, is_stab _ _, is_stab _ _, is_stab _ _, is_stab _ _, trivial⟩ ⟨?o0, ?o1, ?o2, ?o3, ?o4, ?o5, ?o6, ?o7, ?o8, ?o9, trivial⟩ ?_
          case o0 =>
            intro vals wq hRq hpq
            simp only [List.getD_cons_zero, List.getD_cons_succ, canonP]
            simp only [Oper.gives]
            go_simp
            exact ⟨is_mk _ _, Grow.refl _⟩
          case o1 =>
            intro vals wq hRq hpq
            simp only [List.getD_cons_zero, List.getD_cons_succ, canonP]
            simp only [Oper.gives]
            go_simp
            exact ⟨is_mk _ _, Grow.refl _⟩
          case o2 =>
            intro vals wq hRq hpq
            obtain ⟨f0, f1, _⟩ := hpq
            replace f0 : vals 0 = _ := f0
            replace f1 : vals 1 = _ := f1
            simp only [List.getD_cons_zero, List.getD_cons_succ, canonP, f0, f1]
            clear f0 f1
            simp only [Oper.gives]
            go_simp
            exact ⟨is_mk _ _, Grow.refl _⟩
          case o3 =>
            intro vals wq hRq hpq
            obtain ⟨f2, _⟩ := hpq
            replace f2 : vals 2 = _ := f2
            simp only [List.getD_cons_zero, List.getD_cons_succ, canonP, f2]
            clear f2
            have hcell := Grow.ext hRq _ _ CA.out
            simp only [Oper.gives]
            go_simp
            exact ⟨is_mk _ _, Grow.refl _⟩
          case o4 =>
            intro vals wq hRq hpq
            simp only [List.getD_cons_zero, List.getD_cons_succ, canonP]
            simp only [Oper.gives]
            go_simp
            exact ⟨is_mk _ _, Grow.refl _⟩
          case o5 =>
            intro vals wq hRq hpq
            simp only [List.getD_cons_zero, List.getD_cons_succ, canonP]
            simp only [Oper.gives]
            go_simp
            exact ⟨is_mk _ _, Grow.refl _⟩
          case o6 =>
            intro vals wq hRq hpq
            obtain ⟨f4, f5, _⟩ := hpq
            replace f4 : vals 4 = _ := f4
            replace f5 : vals 5 = _ := f5
            simp only [List.getD_cons_zero, List.getD_cons_succ, canonP, f4, f5]
            clear f4 f5
            simp only [Oper.gives]
            go_simp
            exact ⟨is_mk _ _, Grow.refl _⟩
          case o7 =>
            intro vals wq hRq hpq
            obtain ⟨f6, _⟩ := hpq
            replace f6 : vals 6 = _ := f6
            simp only [List.getD_cons_zero, List.getD_cons_succ, canonP, f6]
            clear f6
            have hcell := Grow.ext hRq _ _ CB.out
            simp only [Oper.gives]
            go_simp
            exact ⟨is_mk _ _, Grow.refl _⟩
          case o8 =>
            intro vals wq hRq hpq
            obtain ⟨f3, f7, _⟩ := hpq
            replace f3 : vals 3 = _ := f3
            replace f7 : vals 7 = _ := f7
            simp only [List.getD_cons_zero, List.getD_cons_succ, canonP, f3, f7]
            clear f3 f7
            simp only [Oper.gives]
            go_simp
            exact (same_any qA pA pn qc pc bs wq (OKQ.out.ext (Grow.ext hRq)) (OKP.out.ext (Grow.ext hRq)) hqn).mono fun e w' ⟨he, hg⟩ => ⟨_, he, rfl, hg⟩
          case o9 =>
            intro vals wq hRq hpq
            obtain ⟨f8, _⟩ := hpq
            replace f8 : vals 8 = _ := f8
            simp only [List.getD_cons_zero, List.getD_cons_succ, canonP, f8]
            clear f8
            simp only [Oper.gives]
            go_simp
            exact ⟨is_mk _ _, Grow.refl _⟩
          intro vals wz hRwz hfwz
          obtain ⟨g0, g1, g2, g3, g4, g5, g6, g7, g8, g9, -⟩ := hfwz
          replace g0 : vals 0 = _ := g0
          replace g1 : vals 1 = _ := g1
          replace g2 : vals 2 = _ := g2
          replace g3 : vals 3 = _ := g3
          replace g4 : vals 4 = _ := g4
          replace g5 : vals 5 = _ := g5
          replace g6 : vals 6 = _ := g6
          replace g7 : vals 7 = _ := g7
          replace g8 : vals 8 = _ := g8
          replace g9 : vals 9 = _ := g9
          simp only [canonP, Act.put, List.setIfInBounds_toArray, List.set_cons_succ, List.set_cons_zero, g0, g1, g2, g3, g4, g5, g6, g7, g8, g9]
          clear g0 g1 g2 g3 g4 g5 g6 g7 g8 g9
          have GZ := Lib.hid (Grow.trans _ _ _ HGR.out (Grow.trans _ _ _ (show Grow wr wr.drew from (Below.refl _ _).drew) hRwz))
          clear hRwz
          go_wp2_with fail
          go_roundw
          case rel => exact ⟨j + 1, by omega, by go_num, GZ.out⟩
          case measure => simp only [intOf]; omega
        · go_wp2_with fail
          go_ret
          exact ⟨rfl, HB.out.trans (Below.mono (HB4.out.trans (Below.mono HGR.out HB4.out.size)) HB.out.size)⟩

set_option maxHeartbeats 1000000 in
theorem sums_out (A : Option Addr) (n c : Nat) (ps : List Piece) (w : World) (hp : Pieces w A n ps) (hn : n ≤ 9223372036854775807) (hb : ∀ p ∈ ps, p.n ≤ 9223372036854775807)
    (hgt : (decide (100 < n) || greatFrom 20000 ps) = true) :
    Calls Tryd.prog 3 #[.slice A n c] w fun e w' => e = .returned (.bool true) ∧ Below w.heap.size w w' := by
  have HP := Lib.hid hp
  have HG := Lib.hid hgt
  have HBB := Lib.hid hb
  clear hp hgt hb
  go_enter Tryd.func3, Tryd.ntmps3
  go_wp2_with fail
  refine (great_any A n c ps w HP.out hn HBB.out).mono ?_
  rintro e w' ⟨rfl, rfl⟩
  rw [HG.out]
  go_wp2_with fail
  go_ret
  exact ⟨rfl, Below.refl _ _⟩
theorem sums_all (A : Option Addr) (n c : Nat) (ps : List Piece) (w : World) (ht : Tab w) (hp : Pieces w A n ps) (hn : n ≤ 9223372036854775807) (hb : ∀ p ∈ ps, p.n ≤ 9223372036854775807) (hnil : ∀ p ∈ ps, p.A = none → p.c = 0) :
    Calls Tryd.prog 3 #[.slice A n c] w fun e w' => e = .returned (.bool true) ∧ Below w.heap.size w w' := by
  cases h : (decide (100 < n) || greatFrom 20000 ps)
  · exact sums_walk A n c ps w ht hp hn hb hnil h
  · exact sums_out A n c ps w hp hn hb h
end Go.Proofs.YtcodhmfmdjopeaaDoor
