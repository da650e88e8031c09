/- The law FnExactAddKnown returns true for every input: the program's AddKnown and the reference's return the same. Conditions: none beyond integers of 64 bits. The walk. -/
import Derived.Test.YtcgonoebkaloeaaShared
import Derived.WalkKit
import Derived.WalkLawsBesides
import Derived.WalkSpells
namespace Go.Proofs.Ytcgonoebkaloeaa.fnExactAddKnown
open Go Go.RowKit
set_option linter.unusedVariables false

theorem walk (a0 b0 : Int) (a1 : Int) (w : World) (w0 : (Lit.int .i64 a0).wf = true) (u0 : (Lit.int .i64 b0).wf = true) (w1 : (Lit.int .i64 a1).wf = true) :
    Calls Try.prog 4 #[.agg #[.int .i64 a0, .int .i64 b0], .int .i64 a1] w fun e w' => e = .returned (.bool true) ∧ Below w.heap.size w w' := by
  have T0 := Two.new w (.int .i64 a0) (.int .i64 b0) 25
  have B0 : Below w.heap.size w (w.alloc (.cells #[.int .i64 a0, .int .i64 b0] 25)) := (Below.refl _ _).alloc (Nat.le_refl _) _
  go_enter Try.func4, Try.ntmps4
  go_wp2_with fail
  refine (toShared a0 b0 _).mono ?_
  rintro e w1 ⟨rfl, hb⟩
  replace T0 := T0.kept (below_gb hb) (by simp)
  replace B0 := bt B0 hb
  clear hb
  go_wp2_with fail
  refine (addKnown_s a0 b0 a1 _).mono ?_
  rintro e w2 ⟨rfl, hb⟩
  replace T0 := T0.kept (below_gb hb) (by simp)
  replace B0 := bt B0 hb
  clear hb
  have T1 := Two.new w2 (.int .i64 (akf a0 b0 a1)) (.int .i64 (aks a0 b0 a1)) 26
  obtain ⟨p0, p1, p2, p3⟩ := T0.alloc (.cells #[.int .i64 (akf a0 b0 a1), .int .i64 (aks a0 b0 a1)] 26)
  go_wp2_with fail
  refine (toShared a0 b0 _).mono ?_
  rintro e w3 ⟨rfl, hb⟩
  replace T1 := T1.kept (below_gb hb) (by simp)
  replace B0 := bt (B0.alloc B0.size _) hb
  clear hb p0 p1 p2 p3
  go_wp2_with fail
  refine (addKnown a0 b0 a1 _).mono ?_
  rintro e w4 ⟨rfl, hb⟩
  replace T1 := T1.kept (below_gb hb) (by simp)
  replace B0 := bt B0 hb
  clear hb
  obtain ⟨p0, p1, p2, p3⟩ := T1.alloc (.cells #[.int .i64 (akf a0 b0 a1), .int .i64 (aks a0 b0 a1)] 26)
  go_wp2_with fail
  refine (eqShared _ _ _).mono ?_
  rintro e w5 ⟨rfl, hb⟩
  replace B0 := bt (B0.alloc B0.size _) hb
  clear hb p0 p1 p2 p3
  go_wp2
  go_ret
  exact ⟨rfl, B0⟩
end Go.Proofs.Ytcgonoebkaloeaa.fnExactAddKnown
