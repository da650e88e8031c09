/- The law FnExactNextRandom returns true for every input: the program's NextRandom and the reference's return the same. Conditions: none beyond integers of 64 bits. The walk. -/
import Derived.Test.YtmhinbonkgnjbaaRand
import Derived.WalkKit
import Derived.WalkLawsBesides
import Derived.WalkSpells
namespace Go.Proofs.Ytmhinbonkgnjbaa.fnExactNextRandom
open Go Go.RowKit
set_option linter.unusedVariables false

theorem walk (a0 : Int) (w : World) (w0 : (Lit.int .i64 a0).wf = true) :
    Calls Try.prog 11 #[.int .i64 a0] w fun e w' => e = .returned (.bool true) ∧ Below w.heap.size w w' := by
  go_enter Try.func11, Try.ntmps11
  go_wp2_with (first | (go_at_call 30; refine (nextRandom_s _ _).mono ?_; rintro e w' ⟨rfl, hb⟩) | (go_at_call 31; refine (nextRandom _ _).mono ?_; rintro e w' ⟨rfl, rfl⟩))
  go_ret
  exact ⟨rfl, by repeat (first | exact Below.refl _ _ | (refine Below.alloc ?_ (by first | omega | (simp; done) | (simp; omega)) _) | (refine Below.setCell ?_ (by first | omega | (simp; done) | (simp; omega)) _) | refine bt ?_ (by assumption))⟩
end Go.Proofs.Ytmhinbonkgnjbaa.fnExactNextRandom
