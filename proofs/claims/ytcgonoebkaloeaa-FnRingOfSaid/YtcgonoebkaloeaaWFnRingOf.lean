/- The law FnRingOf returns true for every code: RingOf is a ring number, the same for a number that is greater by Ring, and SignedOf leads back to it. Conditions: none. The walk. -/
import Derived.Test.YtcgonoebkaloeaaDraw
import Derived.WalkKit
import Derived.WalkLawsBesides
import Derived.WalkSpells
namespace Go.Proofs.Ytcgonoebkaloeaa.fnRingOf
open Go Go.RowKit
set_option linter.unusedVariables false

theorem walk (a0 : Option Addr) (len0 cap0 : Nat) (z0 : List Int) (w : World) (w0 : IsRow .u8 w a0 len0 cap0 z0) :
    Calls Try.prog 5 #[.slice a0 len0 cap0] w fun e w' => e = .returned (.bool true) ∧ Below w.heap.size w w' := by
  by_cases hl : 1048576 < len0
  · have h1 : (1048576 : Int) < (len0 : Int) := by omega
    go_enter Try.func5, Try.ntmps5
    go_wp2
    go_ret
    exact ⟨rfl, Below.refl _ _⟩
  · have h1 : (len0 : Int) ≤ 1048576 := by omega
    go_enter Try.func5, Try.ntmps5
    go_wp2_with fail
    refine (drawRingOf _ _ _ _ _ w0).mono ?_
    rintro e w1 ⟨v, ⟨x, rfl, hx⟩, rfl, hb⟩
    have hd := sgn_ring x
    have hv := rv_mod x
    obtain ⟨hx1, hx2⟩ := hx
    by_cases hg : 1152921504606846976 < x
    · go_wp2_with (first | (go_at_call 24; refine (ringValid _ _).mono ?_; rintro e w' ⟨rfl, rfl⟩) | (go_at_call 22; refine (ringOf _ _).mono ?_; rintro e w' ⟨rfl, rfl⟩) | (go_at_call 23; refine (ringOf_s _ _).mono ?_; rintro e w' ⟨rfl, rfl⟩) | (go_at_call 25; refine (signedOf _ _).mono ?_; rintro e w' ⟨rfl, rfl⟩) | (go_at_call 26; refine (alive _).mono ?_; rintro e w' ⟨rfl, rfl⟩))
      go_ret
      exact ⟨rfl, hb⟩
    · have hm : ((x + 4096) % 4096 == x % 4096) = true := by simp
      go_wp2_with (first | (go_at_call 24; refine (ringValid _ _).mono ?_; rintro e w' ⟨rfl, rfl⟩) | (go_at_call 22; refine (ringOf _ _).mono ?_; rintro e w' ⟨rfl, rfl⟩) | (go_at_call 23; refine (ringOf_s _ _).mono ?_; rintro e w' ⟨rfl, rfl⟩) | (go_at_call 25; refine (signedOf _ _).mono ?_; rintro e w' ⟨rfl, rfl⟩) | (go_at_call 26; refine (alive _).mono ?_; rintro e w' ⟨rfl, rfl⟩))
      go_ret
      exact ⟨rfl, hb⟩
end Go.Proofs.Ytcgonoebkaloeaa.fnRingOf
