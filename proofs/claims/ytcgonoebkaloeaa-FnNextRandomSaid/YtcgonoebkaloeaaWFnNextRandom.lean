/- The law FnNextRandom returns true for every code: the next seed is a seed, the number is a ring number. Conditions: none. The walk. -/
import Derived.Test.YtcgonoebkaloeaaDraw
import Derived.WalkKit
import Derived.WalkLawsBesides
import Derived.WalkSpells
namespace Go.Proofs.Ytcgonoebkaloeaa.fnNextRandom
open Go Go.RowKit
set_option linter.unusedVariables false

theorem walk (a0 : Option Addr) (len0 cap0 : Nat) (z0 : List Int) (w : World) (w0 : IsRow .u8 w a0 len0 cap0 z0) :
    Calls Try.prog 10 #[.slice a0 len0 cap0] w fun e w' => e = .returned (.bool true) ∧ Below w.heap.size w w' := by
  by_cases hl : 1048576 < len0
  · have h1 : (1048576 : Int) < (len0 : Int) := by omega
    go_enter Try.func10, Try.ntmps10
    go_wp2
    go_ret
    exact ⟨rfl, Below.refl _ _⟩
  · have h1 : (len0 : Int) ≤ 1048576 := by omega
    go_enter Try.func10, Try.ntmps10
    go_wp2_with fail
    refine (drawNextRandom _ _ _ _ _ w0).mono ?_
    rintro e w1 ⟨v, ⟨x, rfl, hx⟩, rfl, hb⟩
    by_cases hv : sv x = true
    · obtain ⟨q1, q2, q3, q4⟩ := rnum_yes hv
      go_wp2_with (first | (go_at_call 40; refine (nextRandom_s _ _).mono ?_; rintro e w' ⟨rfl, hb2⟩) | (go_at_call 39; refine (nextRandom _ _).mono ?_; rintro e w' ⟨rfl, rfl⟩) | (go_at_call 24; refine (ringValid _ _).mono ?_; rintro e w' ⟨rfl, rfl⟩) | (go_at_call 26; refine (alive _).mono ?_; rintro e w' ⟨rfl, rfl⟩))
      go_ret
      exact ⟨rfl, bt hb (by assumption)⟩
    · obtain ⟨n1, n2⟩ := rnum_bad (by simpa using hv : sv x = false)
      go_wp2_with (first | (go_at_call 40; refine (nextRandom_s _ _).mono ?_; rintro e w' ⟨rfl, hb2⟩) | (go_at_call 39; refine (nextRandom _ _).mono ?_; rintro e w' ⟨rfl, rfl⟩) | (go_at_call 24; refine (ringValid _ _).mono ?_; rintro e w' ⟨rfl, rfl⟩) | (go_at_call 26; refine (alive _).mono ?_; rintro e w' ⟨rfl, rfl⟩))
      go_ret
      exact ⟨rfl, bt hb (by assumption)⟩
end Go.Proofs.Ytcgonoebkaloeaa.fnNextRandom
