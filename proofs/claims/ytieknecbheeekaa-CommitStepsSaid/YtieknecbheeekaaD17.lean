/- Disk.Write, whatever the block and the disk's power. -/
import Derived.Test.YtieknecbheeekaaD16
set_option linter.unusedVariables false
set_option linter.unusedSimpArgs false
namespace Go.Proofs.Ytieknecbheeekaa
open Go.RowKit

def DS.tried (d : DS) (b : Int) (x : Blk) : DS := if d.why b = 0 then d.wrote b.toNat x else d
/-- a write was tried -/
def TriedPost (B : Nat) (S : List Nat) (d : DS) (b : Int) (x : Blk) (w : World) (e : Ending) (w' : World) : Prop :=
  e = .returned (.int .i64 (d.why b)) ∧ ∃ S', IsDisk w' B S' (d.tried b x) ∧ Touch S w w' ∧ ∀ k ∈ S', k ∈ S ∨ w.heap.size ≤ k
theorem write_any {w : World} {B : Nat} {S : List Nat} {d : DS} (h : IsDisk w B S d) (b : Int) (x : Blk) (hx : x.length = 256) (hw : d.ws.length ≤ 100000) (ha : 0 ≤ d.acts ∧ d.acts ≤ 1000000) (hl : 0 ≤ d.left ∧ d.left ≤ 9223372036854775807) :
    Calls Try.prog 41 #[.pointer (some ⟨B, 0, none⟩), .int .i64 b, .agg (bc x).toArray] w (TriedPost B S d b x w) := by
  by_cases hz : d.why b = 0
  · have hz' := hz
    unfold DS.why at hz'
    have hd : d.dead = false := by
      cases e : d.dead
      · rfl
      · rw [e, if_pos rfl] at hz'; cases hz'
    rw [hd, if_neg (by simp)] at hz'
    have hb : 0 ≤ b ∧ b < d.safe.length := by
      by_cases c : 0 ≤ b ∧ b < d.safe.length
      · exact c
      · rw [if_neg c] at hz'; cases hz'
    obtain ⟨n, rfl⟩ : ∃ n : Nat, b = (n : Int) := ⟨b.toNat, by omega⟩
    refine (write_ok h n (by omega) x hx hd hw ha hl).mono ?_
    rintro e w' ⟨rfl, S', h1, h2, h3⟩
    exact ⟨by rw [hz], S', by unfold DS.tried; rw [if_pos hz]; exact h1, h2, h3⟩
  · refine (write_refused b (d.why b) x (by simpa using hz) (fun w' hg => refuseAt_any (h.kept (Touch.of_below (S := []) hg) (by simp)) b)).mono ?_
    rintro e w' ⟨rfl, hg⟩
    exact ⟨rfl, S, by unfold DS.tried; rw [if_neg hz]; exact h.kept (Touch.of_below (S := []) hg) (by simp), Touch.of_below hg, fun k hk => .inl hk⟩
#print axioms write_any
end Go.Proofs.Ytieknecbheeekaa
