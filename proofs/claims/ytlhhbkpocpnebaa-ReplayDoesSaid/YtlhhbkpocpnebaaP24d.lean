/- ReplayLast: the plain law; a transaction alone. -/
import Derived.Test.YtlhhbkpocpnebaaP21a
set_option linter.unusedVariables false
set_option linter.unusedSimpArgs false
namespace Go.Proofs.Ytlhhbkpocpnebaa
open Go.RowKit Go.Maps

theorem ov_snoc (L : List PT) (t : PT) : ov (L ++ [t]) = ovT (ov L) t := by unfold ov; rw [List.foldl_append]; rfl
theorem ov_alone (t : PT) : ov [t] = ovT (fun _ => none) t := rfl
theorem last_named {L : List PT} {t : PT} {b : Int} (h : nmB t b = true) : ov (L ++ [t]) b = ov [t] b := by rw [ov_snoc, ov_alone]; exact ovT_named (.inl (nmB_iff.1 h))
theorem last_other {L : List PT} {t : PT} {b : Int} (h : nmB t b = false) : ov (L ++ [t]) b = ov L b := by
  rw [ov_snoc]
  exact ovT_other (fun hn => by rw [nmB_iff.2 hn] at h; cases h)
theorem alone_named {t : PT} {b : Int} (h : HasM (ov [t]) b = true) : nmB t b = true := by
  cases hb : nmB t b with
  | true => rfl
  | false =>
    have := last_other (L := []) (t := t) (b := b) hb
    unfold HasM at h
    rw [List.nil_append] at this
    rw [this] at h
    cases h
/-- the copies of what transactions come to -/
theorem out_mem {f : PM} (ho : Own f) {zs : List Int} (hr : Rising (HasM f) zs) {c : Cp} : c ∈ outL f zs ↔ f c.1 = some c := by
  unfold outL
  rw [List.mem_map]
  constructor
  · rintro ⟨z, hz, rfl⟩
    obtain ⟨d, hd⟩ := Option.isSome_iff_exists.1 ((hr.mem z).1 hz)
    rw [hd]
    show f d.1 = some d
    rw [(ho z d hd).1, hd]
  · intro h
    refine ⟨c.1, (hr.mem _).2 (by unfold HasM; rw [h]; rfl), by rw [h]; rfl⟩
theorem out_has {f : PM} (ho : Own f) {zs : List Int} (hr : Rising (HasM f) zs) (b : Int) : hasC (outL f zs) b = HasM f b := by
  apply Bool.eq_iff_iff.2
  rw [hasC_iff, List.mem_map]
  constructor
  · rintro ⟨c, hc, rfl⟩
    have := (out_mem ho hr).1 hc
    unfold HasM
    rw [this]
    rfl
  · intro h
    obtain ⟨d, hd⟩ := Option.isSome_iff_exists.1 h
    exact ⟨d, (out_mem ho hr).2 (by rw [(ho b d hd).1]; exact hd), (ho b d hd).1⟩
/-- one transaction told in short, in a row of its own -/
theorem mk_tsh (m s : Int) (a1 a2 : Option Addr) (n1 c1 n2 c2 : Nat) (w : World) : (Instr.buildSlice 22 1 #[(0, .agg #[.int .i64 m, .slice a1 n1 c1, .slice a2 n2 c2, .int .i64 s])]).run Try.prog w = .ok (.slice (some ⟨w.heap.size, 0, none⟩) 1 1) (w.alloc (.cells #[.int .i64 m, .slice a1 n1 c1, .slice a2 n2 c2, .int .i64 s] 60)) := by kernel_rfl
theorem tsh_one {w : World} (m s : Int) {a1 a2 : Option Addr} {c1 c2 : Nat} {t : TSh} (hr : RowsIn w (.slice a1 t.rows.length c1) t.rows) (hs : IntsIn w (.slice a2 t.rs.length c2) t.rs) (h1 : t.rows.length ≤ 9223372036854775807) (h2 : t.rs.length ≤ 9223372036854775807) :
    TShIn (w.alloc (.cells #[.int .i64 m, .slice a1 t.rows.length c1, .slice a2 t.rs.length c2, .int .i64 s] 60)) (.slice (some ⟨w.heap.size, 0, none⟩) 1 1) [t] := by
  refine ⟨_, _, rfl, fun i p hp => ?_⟩
  have hi : i = 0 := by have := (List.getElem?_eq_some_iff.1 hp).1; simp at this; omega
  subst hi
  obtain rfl : t = p := by simpa using hp
  have hz := heap_alloc_last w (.cells #[.int .i64 m, .slice a1 t.rows.length c1, .slice a2 t.rs.length c2, .int .i64 s] 60)
  refine ⟨_, rfl, by simp, .int .i64 m, .int .i64 s, a1, c1, a2, c2, ?_, ?_, ?_, ?_, hr.grow (Grow.alloc _ _), hs.grow (Grow.alloc _ _), h1, h2⟩
  · exact cell_at hz 0
  · exact cell_at hz 1
  · exact cell_at hz 2
  · exact cell_at hz 3
end Go.Proofs.Ytlhhbkpocpnebaa
