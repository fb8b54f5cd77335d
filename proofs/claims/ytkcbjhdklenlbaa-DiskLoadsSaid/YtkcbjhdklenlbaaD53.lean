/- does, whatever the act. -/
import Derived.Test.YtkcbjhdklenlbaaD52
set_option linter.unusedVariables false
namespace Go.Proofs.Ytkcbjhdklenlbaa
open Go.RowKit

theorem does_any {w : World} {B R : Nat} {S T : List Nat} {k : Nat} {d : DS} (h : Twin w B R S T k d) (hk : k ≤ 100000) (q at' : Int) (ha : at' ≤ 9223372036854775807) (fl : Nat) (hfl : fl < 4294967296) (a1 : Option Addr) (n cap1 : Nat) (ks : List Bool) (hn : n = ks.length) (hb : Bools w (S ++ T) (.slice a1 n cap1) ks) (hnil : a1 = none → cap1 = 0 ∧ n = 0) (hkl : n ≤ 140737488351232) (hq : 0 ≤ q ∧ q < 256) :
    Calls Try.prog 29 #[.pointer (some ⟨B, 0, none⟩), .pointer (some ⟨R, 0, none⟩), .agg #[.int .u8 q, .int .i64 at', .int .u32 (fl : Int), .slice a1 n cap1]] w (Did B R S T (k + 1) w) := by
  by_cases h4 : q.tmod 8 = 4
  · exact does_flush h hk q at' fl _ hq h4
  by_cases h5 : q.tmod 8 = 5
  · exact does_read h hk q at' fl _ hq h5
  by_cases h6 : q.tmod 8 = 6
  · exact does_power h hk q at' ha fl _ hq h6
  by_cases h7 : q.tmod 8 = 7
  · exact does_crash h hk q at' fl a1 n cap1 ks hn hb hnil hkl hq h7
  · exact does_write h hk q at' fl hfl _ hq ⟨h4, h5, h6, h7⟩
#print axioms does_any
end Go.Proofs.Ytkcbjhdklenlbaa
