/- The law FnCutRing returns true for every code: One times the cut number is at most the number, and less by less than One. Conditions: none. The walk. -/
import Derived.Test.YtcgonoebkaloeaaDraw
import Derived.WalkKit
import Derived.WalkLawsBesides
import Derived.WalkSpells
namespace Go.Proofs.Ytcgonoebkaloeaa.fnCutRing
open Go Go.RowKit
set_option linter.unusedVariables false

theorem walk (a0 : Option Addr) (len0 cap0 : Nat) (z0 : List Int) (w : World) (w0 : IsRow .u8 w a0 len0 cap0 z0) :
    Calls Try.prog 13 #[.slice a0 len0 cap0] w fun e w' => e = .returned (.bool true) ∧ Below w.heap.size w w' := by
  by_cases hl : 1048576 < len0
  · have h1 : (1048576 : Int) < (len0 : Int) := by omega
    go_enter Try.func13, Try.ntmps13
    go_wp2
    go_ret
    exact ⟨rfl, Below.refl _ _⟩
  · have h1 : (len0 : Int) ≤ 1048576 := by omega
    go_enter Try.func13, Try.ntmps13
    go_wp2_with fail
    refine (drawCutRing _ _ _ _ _ w0).mono ?_
    rintro e w1 ⟨v, ⟨x, rfl, hx⟩, rfl, hb⟩
    have hs := sgn_bd x
    have hs2 := sgn_bd (cutr x)
    by_cases hv : rv x = true
    · obtain ⟨q1, q2, q3⟩ := cutr_yes hv
      go_wp2_with (first | (go_at_call 48; refine (cutRing_s _ _).mono ?_; rintro e w' ⟨rfl, rfl⟩) | (go_at_call 47; refine (cutRing _ _).mono ?_; rintro e w' ⟨rfl, rfl⟩) | (go_at_call 25; refine (signedOf _ _).mono ?_; rintro e w' ⟨rfl, rfl⟩) | (go_at_call 26; refine (alive _).mono ?_; rintro e w' ⟨rfl, rfl⟩))
      go_ret
      exact ⟨rfl, hb⟩
    · have hn := cutr_bad (by simpa using hv : rv x = false)
      go_wp2_with (first | (go_at_call 48; refine (cutRing_s _ _).mono ?_; rintro e w' ⟨rfl, rfl⟩) | (go_at_call 47; refine (cutRing _ _).mono ?_; rintro e w' ⟨rfl, rfl⟩) | (go_at_call 25; refine (signedOf _ _).mono ?_; rintro e w' ⟨rfl, rfl⟩) | (go_at_call 26; refine (alive _).mono ?_; rintro e w' ⟨rfl, rfl⟩))
      go_ret
      exact ⟨rfl, hb⟩
end Go.Proofs.Ytcgonoebkaloeaa.fnCutRing
