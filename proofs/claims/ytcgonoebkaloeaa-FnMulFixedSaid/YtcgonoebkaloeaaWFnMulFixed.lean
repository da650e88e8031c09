/- The law FnMulFixed returns true for every code: fixed products do not depend on the order, with One a number stays. Conditions: none. The walk. -/
import Derived.Test.YtcgonoebkaloeaaDraw
import Derived.WalkKit
import Derived.WalkLawsBesides
import Derived.WalkSpells
namespace Go.Proofs.Ytcgonoebkaloeaa.fnMulFixed
open Go Go.RowKit
set_option linter.unusedVariables false

theorem walk (a0 : Option Addr) (len0 cap0 : Nat) (z0 : List Int) (w : World) (w0 : IsRow .u8 w a0 len0 cap0 z0) :
    Calls Try.prog 14 #[.slice a0 len0 cap0] w fun e w' => e = .returned (.bool true) ∧ Below w.heap.size w w' := by
  by_cases hl : 1048576 < len0
  · have h1 : (1048576 : Int) < (len0 : Int) := by omega
    go_enter Try.func14, Try.ntmps14
    go_wp2
    go_ret
    exact ⟨rfl, Below.refl _ _⟩
  · have h1 : (len0 : Int) ≤ 1048576 := by omega
    go_enter Try.func14, Try.ntmps14
    go_wp2_with fail
    refine (drawMulFixed _ _ _ _ _ w0).mono ?_
    rintro e w1 ⟨v, ⟨x, y, rfl, hx, hy⟩, rfl, hb⟩
    have hc := mulf_comm' x y
    by_cases ha : rv x = true
    · by_cases hb2 : rv y = true
      · obtain ⟨q1, q2, q3⟩ := mulf_yes ha hb2
        go_wp2_with (first | (go_at_call 15; refine (mulFixed_s _ _ _).mono ?_; rintro e w' ⟨rfl, rfl⟩) | (go_at_call 16; refine (mulFixed _ _ _).mono ?_; rintro e w' ⟨rfl, rfl⟩) | (go_at_call 26; refine (alive _).mono ?_; rintro e w' ⟨rfl, rfl⟩))
        go_ret
        exact ⟨ret_bool (by first | rfl | simp [*]), hb⟩
      · have hn := mulf_bad (.inr (by simpa using hb2) : rv x = false ∨ rv y = false)
        go_wp2_with (first | (go_at_call 15; refine (mulFixed_s _ _ _).mono ?_; rintro e w' ⟨rfl, rfl⟩) | (go_at_call 16; refine (mulFixed _ _ _).mono ?_; rintro e w' ⟨rfl, rfl⟩) | (go_at_call 26; refine (alive _).mono ?_; rintro e w' ⟨rfl, rfl⟩))
        go_ret
        exact ⟨ret_bool (by first | rfl | simp [*]), hb⟩
    · have hn := mulf_bad (.inl (by simpa using ha) : rv x = false ∨ rv y = false)
      go_wp2_with (first | (go_at_call 15; refine (mulFixed_s _ _ _).mono ?_; rintro e w' ⟨rfl, rfl⟩) | (go_at_call 16; refine (mulFixed _ _ _).mono ?_; rintro e w' ⟨rfl, rfl⟩) | (go_at_call 26; refine (alive _).mono ?_; rintro e w' ⟨rfl, rfl⟩))
      go_ret
      exact ⟨ret_bool (by first | rfl | simp [*]), hb⟩
end Go.Proofs.Ytcgonoebkaloeaa.fnMulFixed
