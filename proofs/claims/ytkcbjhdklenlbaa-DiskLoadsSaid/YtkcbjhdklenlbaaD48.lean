/- Twins go on: the plain side, and does for Flush, Power, Write. -/
import Derived.Test.YtkcbjhdklenlbaaD47
import Derived.Test.YtkcbjhdklenlbaaD26
set_option linter.unusedVariables false
set_option linter.unusedSimpArgs false
namespace Go.Proofs.Ytkcbjhdklenlbaa
open Go.RowKit

/-- what of a twin is no memory -/
structure Fair (k : Nat) (d : DS) : Prop where
  last : d.last = applyW d.safe d.ws
  wlt : ∀ p ∈ d.ws, p.1 < d.safe.length
  ws : d.ws.length ≤ k
  acts : 0 ≤ d.acts ∧ d.acts ≤ k
  left : 0 ≤ d.left ∧ d.left ≤ 9223372036854775807
theorem Twin.fair {w : World} {B R : Nat} {S T : List Nat} {k : Nat} {d : DS} (h : Twin w B R S T k d) : Fair k d := ⟨h.last, h.wlt, h.ws, h.acts, h.left⟩
theorem Fair.twin {w : World} {B R : Nat} {S T : List Nat} {k : Nat} {d : DS} (h : Fair k d) (h1 : IsDisk w B S d) (h2 : IsRef w R T d) (h3 : ∀ i ∈ S, i ∉ T) : Twin w B R S T k d := ⟨h1, h2, h3, h.last, h.wlt, h.ws, h.acts, h.left⟩
theorem Fair.more {k : Nat} {d : DS} (h : Fair k d) : Fair (k + 1) d := { h with ws := Nat.le_succ_of_le h.ws, acts := ⟨h.acts.1, by have := h.acts.2; omega⟩ }
theorem Fair.lefts {k : Nat} {d : DS} (h : Fair k d) (hd : d.dead = false) : 0 ≤ (if d.set then d.left - 1 else d.left) ∧ (if d.set then d.left - 1 else d.left) ≤ 9223372036854775807 := by
  have := h.left
  unfold DS.dead at hd
  cases hs : d.set
  · simp; omega
  · rw [hs] at hd; simp at hd; simp; omega
theorem Fair.flushed {k : Nat} {d : DS} (h : Fair k d) (hd : d.dead = false) : Fair (k + 1) d.flushed where
  last := h.last
  wlt := fun p hp => by cases hp
  ws := Nat.zero_le _
  acts := by show 0 ≤ d.acts + 1 ∧ d.acts + 1 ≤ _; have := h.acts; omega
  left := h.lefts hd
theorem Fair.wrote {k : Nat} {d : DS} (h : Fair k d) (hd : d.dead = false) (b : Nat) (hb : b < d.safe.length) (x : Blk) : Fair (k + 1) (d.wrote b x) where
  last := by show d.last.set b x = applyW d.safe (d.ws ++ [(b, x)]); rw [applyW_snoc, h.last]
  wlt := fun p hp => by
    rcases List.mem_append.1 (show p ∈ d.ws ++ [(b, x)] from hp) with h1 | h1
    · exact h.wlt p h1
    · rw [List.mem_singleton.1 h1]; exact hb
  ws := by show (d.ws ++ [(b, x)]).length ≤ k + 1; rw [List.length_append]; have := h.ws; simp; omega
  acts := by show 0 ≤ d.acts + 1 ∧ d.acts + 1 ≤ _; have := h.acts; omega
  left := h.lefts hd
theorem DS.why_ok {d : DS} {b : Int} (h : d.why b = 0) : d.dead = false ∧ 0 ≤ b ∧ b < d.safe.length := by
  unfold DS.why at h
  have hd : d.dead = false := by
    cases e : d.dead
    · rfl
    · rw [e, if_pos rfl] at h; cases h
  rw [hd, if_neg (by simp)] at h
  refine ⟨hd, ?_⟩
  by_cases c : 0 ≤ b ∧ b < d.safe.length
  · exact c
  · rw [if_neg c] at h; cases h
theorem Fair.tried {k : Nat} {d : DS} (h : Fair k d) (b : Int) (x : Blk) : Fair (k + 1) (d.tried b x) := by
  unfold DS.tried
  by_cases hy : d.why b = 0
  · rw [if_pos hy]
    obtain ⟨hd, h0, h1⟩ := DS.why_ok hy
    exact h.wrote hd _ (by omega) x
  · rw [if_neg hy]
    exact h.more
theorem Fair.crashed {k : Nat} {d : DS} (h : Fair k d) (ks : List Bool) : Fair k (d.crashed ks) where
  last := rfl
  wlt := fun p hp => by cases hp
  ws := Nat.zero_le _
  acts := h.acts
  left := ⟨Int.le_refl _, by show (0 : Int) ≤ _; omega⟩
theorem Fair.powered {k : Nat} {d : DS} (h : Fair k d) (a : Int) (ha : a ≤ 9223372036854775807) : Fair k (d.powered a) where
  last := h.last
  wlt := h.wlt
  ws := h.ws
  acts := h.acts
  left := by show 0 ≤ (if 0 ≤ a then a else 0) ∧ (if 0 ≤ a then a else 0) ≤ _; split <;> omega
theorem rtried_ok {w : World} {R : Nat} {T : List Nat} {d : DS} (h : IsRef w R T d) (b : Int) (x : Blk) (hx : x.length = 256) (hw : d.ws.length ≤ 100000) (ha : 0 ≤ d.acts ∧ d.acts ≤ 1000000) (hl : 0 ≤ d.left ∧ d.left ≤ 9223372036854775807) :
    Calls Try.prog 42 #[.pointer (some ⟨R, 0, none⟩), .int .i64 b, .agg (bc x).toArray] w (RPost R T (d.tried b x) (.int .i64 (d.why b)) w) := by
  by_cases hy : d.why b = 0
  · obtain ⟨hd, h0, h1⟩ := DS.why_ok hy
    obtain ⟨n, rfl⟩ : ∃ n : Nat, b = (n : Int) := ⟨b.toNat, by omega⟩
    refine (rwrite_ok h n (by omega) x hx hd hw ha hl).mono ?_
    rintro e w' ⟨rfl, T', h2, h3, h4⟩
    exact ⟨by rw [hy], T', by unfold DS.tried; rw [if_pos hy]; exact h2, h3, h4⟩
  · refine (rwrite_no h b x hy).mono ?_
    rintro e w' ⟨rfl, hg⟩
    exact ⟨rfl, T, by unfold DS.tried; rw [if_neg hy]; exact h.kept (Touch.of_below (S := []) hg) (by simp), Touch.of_below hg, fun k hk => .inl hk⟩
/-- an act was done at both -/
def Did (B R : Nat) (S T : List Nat) (k : Nat) (w : World) (e : Ending) (w' : World) : Prop :=
  e = .returned (.bool true) ∧ ∃ S' T' d', Twin w' B R S' T' k d' ∧ Touch (S ++ T) w w' ∧ ∀ i ∈ S' ++ T', i ∈ S ++ T ∨ w.heap.size ≤ i
theorem IsRef.lt {w : World} {R : Nat} {T : List Nat} {d : DS} (h : IsRef w R T d) : ∀ k ∈ T, k < w.heap.size := by
  obtain ⟨g, c, vw, h⟩ := h
  exact h.lt
set_option maxRecDepth 100000 in
set_option maxHeartbeats 2000000 in
theorem does_write {w : World} {B R : Nat} {S T : List Nat} {k : Nat} {d : DS} (h : Twin w B R S T k d) (hk : k ≤ 100000) (q at' : Int) (fl : Nat) (hfl : fl < 4294967296) (vk : Value) (hq : 0 ≤ q ∧ q < 256) (hr : q.tmod 8 ≠ 4 ∧ q.tmod 8 ≠ 5 ∧ q.tmod 8 ≠ 6 ∧ q.tmod 8 ≠ 7) :
    Calls Try.prog 29 #[.pointer (some ⟨B, 0, none⟩), .pointer (some ⟨R, 0, none⟩), .agg #[.int .u8 q, .int .i64 at', .int .u32 (fl : Int), vk]] w (Did B R S T (k + 1) w) := by
  have hta := Touch.alloc [] w (.cells #[.int .u8 q, .int .i64 at', .int .u32 (fl : Int), vk] 55)
  have HT := Lib.hid (h.kept0 hta)
  have HTA := Lib.hid (Touch.alloc (S ++ T) w (.cells #[.int .u8 q, .int .i64 at', .int .u32 (fl : Int), vk] 55))
  have hob := heap_alloc_last w (.cells #[.int .u8 q, .int .i64 at', .int .u32 (fl : Int), vk] 55)
  have x0 := cell_at hob 0
  have HP1 := Lib.hid (cell_at hob 1)
  have HP2 := Lib.hid (cell_at hob 2)
  have HPL := Lib.hid (show w.heap.size < (w.alloc (.cells #[.int .u8 q, .int .i64 at', .int .u32 (fl : Int), vk] 55)).heap.size by simp)
  have HPS := Lib.hid (show w.heap.size ∉ S ++ T by
    intro hm
    rcases List.mem_append.1 hm with h1 | h1
    · have := h.disk.lt _ h1; omega
    · have := h.ref.lt _ h1; omega)
  have HFR := Lib.hid (h.fair.tried at' (fillB fl))
  have HF := Lib.hid (fun wq => fill_any fl hfl wq)
  have hws := h.ws
  have hacts := h.acts
  have hleft := h.left
  have HC := Lib.hid (fun wq (hd : IsDisk wq B S d) => write_any hd at' (fillB fl) (fillB_length fl) (by omega) (by omega) hleft)
  have HD := Lib.hid (fun wq (hd : IsRef wq R T d) => rtried_ok hd at' (fillB fl) (fillB_length fl) (by omega) (by omega) hleft)
  have HSZ := Lib.hid (Nat.le_succ w.heap.size)
  obtain ⟨r, hrr⟩ : ∃ r : Int, q.tmod 8 = r := ⟨_, rfl⟩
  rw [hrr] at hr
  have e4 : (r == 4) = false := by simpa using hr.1
  have e5 : (r == 5) = false := by simpa using hr.2.1
  have e6 : (r == 6) = false := by simpa using hr.2.2.1
  have e7 : (r == 7) = false := by simpa using hr.2.2.2
  clear h hta hob hws hacts hleft
  go_enter Try.func29, Try.ntmps29
  go_upto_region 22 with (fail)
  have HZ := Lib.hid (show (w.alloc (.cells #[.int .u8 q, .int .i64 at', .int .u32 (fl : Int), vk] 55)).heap.size = w.heap.size + 1 by simp)
  generalize w.alloc (.cells #[.int .u8 q, .int .i64 at', .int .u32 (fl : Int), vk] 55) = W0 at *
  refine doesw_reg B R w.heap.size fl S T d (d.tried at' (fillB fl)) at' (d.why at') (fillB fl) W0 (Lib.hid HT.out.disk) (Lib.hid HT.out.ref) (Lib.hid HT.out.apart) (Lib.hid HT.out.ref.lt) HP1 HP2 HPL HPS HF HC HD _ _ _ _ _ _ _ _ _ _ _ _ _ _ _ _ _ _ _ _ _ _ _ _ _ _ _ _ _ _ _ _ _ _ _ _ _ _ _ _ _ _ _ _ _ _ _ _ _ _ _ _ _ _ _ _ _ _ _ _ _ _ _ _ _ _ _ _ _ _ _ _ _ _ _ _ _ _ _ _ _ _ _ _ _ _ _ _ _ _ _ _ _ _ _ _ _ _ _ (Lib.hid ?_)
  intro u86 u87 u88 u89 u90 u91 u92 u93 u94 u95 u96 u97 u98 u99 u100 wz ht hh
  have HD2 := Lib.hid (show Did B R S T (k + 1) w (.returned (.bool true)) wz by
    obtain ⟨S', T', h1, h2, h3, h4, h5⟩ := hh
    refine ⟨rfl, S', T', _, HFR.out.twin h1 h2 h3, HTA.out.trans ht (fun i hi => .inl hi), ?_⟩
    intro i hi
    have hz := HZ.out
    rcases List.mem_append.1 hi with h | h
    · rcases h4 i h with h6 | h6
      · exact .inl (List.mem_append_left _ h6)
      · exact .inr (by omega)
    · rcases h5 i h with h6 | h6
      · exact .inl (List.mem_append_right _ h6)
      · exact .inr (by omega))
  clear ht hh
  go_wp2_with fail
  go_ret
  exact HD2.out
#print axioms does_write
end Go.Proofs.Ytkcbjhdklenlbaa
