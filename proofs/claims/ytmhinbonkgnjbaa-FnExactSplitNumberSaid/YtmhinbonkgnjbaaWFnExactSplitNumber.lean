/- The law FnExactSplitNumber returns true for every input: the program's SplitNumber and the reference's return the same. Conditions: none beyond integers of 64 bits. The walk. -/
import Derived.Test.YtmhinbonkgnjbaaShared
import Derived.WalkKit
import Derived.WalkLawsBesides
import Derived.WalkSpells
namespace Go.Proofs.Ytmhinbonkgnjbaa.fnExactSplitNumber
open Go Go.RowKit
set_option linter.unusedVariables false

theorem walk (a0 : Int) (a1 : Int) (w : World) (w0 : (Lit.int .i64 a0).wf = true) (w1 : (Lit.int .i64 a1).wf = true) :
    Calls Try.prog 13 #[.int .i64 a0, .int .i64 a1] w fun e w' => e = .returned (.bool true) ∧ Below w.heap.size w w' := by
  go_enter Try.func13, Try.ntmps13
  go_wp2_with (first | (go_at_call 35; refine (splitNumber _ _ _).mono ?_; rintro e w' ⟨rfl, hb⟩; obtain ⟨hc, hf⟩ := bcell hb; have hz := hb.size; (try simp at hz); (try replace hz := Nat.lt_of_succ_le hz); (try have hy : w.heap.size < w'.heap.size := (by omega))) | (go_at_call 34; refine (splitNumber_s _ _ _).mono ?_; rintro e w' ⟨rfl, hb⟩; obtain ⟨hc, hf⟩ := bcell hb; have hz := hb.size; (try simp at hz); (try replace hz := Nat.lt_of_succ_le hz); (try have hy : w.heap.size < w'.heap.size := (by omega))) | (go_at_call 36; refine (eqShared _ _ _).mono ?_; rintro e w' ⟨rfl, hb⟩; obtain ⟨hc, hf⟩ := bcell hb; have hz := hb.size; (try simp at hz); (try replace hz := Nat.lt_of_succ_le hz); (try have hy : w.heap.size < w'.heap.size := (by omega))))
  go_ret
  exact ⟨rfl, by repeat (first | exact Below.refl _ _ | (refine Below.alloc ?_ (by first | omega | (simp; done) | (simp; omega)) _) | (refine Below.setCell ?_ (by first | omega | (simp; done) | (simp; omega)) _) | refine bt ?_ (by assumption))⟩
end Go.Proofs.Ytmhinbonkgnjbaa.fnExactSplitNumber
