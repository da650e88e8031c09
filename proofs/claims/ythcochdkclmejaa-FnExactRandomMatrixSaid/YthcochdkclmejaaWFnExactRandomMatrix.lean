/- The law FnExactRandomMatrix returns true for all arguments: the program's RandomMatrix and the reference's return the same, in memory of its own. Conditions: none. The walk. -/
import Derived.Test.YthcochdkclmejaaRMat
import Derived.Test.YthcochdkclmejaaMatB
import Derived.WalkKit
import Derived.WalkLawsBesides
import Derived.WalkSpells
import Derived.Deep.RegionHeld3
namespace Go.Proofs.Ythcochdkclmejaa.fnExactRandomMatrix
open Go Go.RowKit
set_option linter.unusedVariables false

set_option maxHeartbeats 1600000 in
theorem walk (a0 : Int) (a1 : Int) (a2 : Int) (w : World) (w0 : (Lit.int .i64 a0).wf = true) (w1 : (Lit.int .i64 a1).wf = true) (w2 : (Lit.int .i64 a2).wf = true) :
    Calls Try.prog 10 #[.int .i64 a0, .int .i64 a1, .int .i64 a2] w fun e w' => e = .returned (.bool true) ∧ Below w.heap.size w w' := by
  have hvl := mL_len a0 a1 a2
  have C1 := fun u => randomMatrix a0 a1 a2 u
  have C2 := fun u => randomMatrix_sg a0 a1 a2 u
  generalize mL a0 a1 a2 = l at *
  generalize mZ a0 a1 a2 = z at *
  generalize pN (mok a0 a1 a2) a0 = R0 at *
  generalize pN (mok a0 a1 a2) a1 = C0 at *
  replace C1 := Lib.hid C1
  replace C2 := Lib.hid C2
  have hne : (z != z) = false := by simp
  have kq : ¬ (1 : Int) + (l.length : Int) < 0 := by omega
  have kn : ((1 : Int) + (l.length : Int) != 1 + (l.length : Int)) = false := by simp
  have G0 : w.grownBy w none := World.grownBy.refl _ _
  go_enter Try.func10, Try.ntmps10
  go_wp2_with fail
  refine (C2.out _).mono ?_
  rintro e w1 ⟨aW, capW, rfl, oW, hg⟩
  have m1 := hg.size
  skip
  replace G0 := gbt G0 hg
  clear hg
  have rW' : ∀ q, (.slice aW l.length capW : Value).ownBlock = some q → w.heap.size ≤ q ∧ q < w1.heap.size := fun q e => by have := oW.lt q e; (try simp at this); omega
  have rW := Lib.hid rW'
  clear rW'
  replace G0 := gbt G0 (World.grownBy_alloc _ (.cells #[.int .i64 R0, .int .i64 C0, .slice aW l.length capW] 39) none)
  replace oW := oW.alloc (.cells #[.int .i64 R0, .int .i64 C0, .slice aW l.length capW] 39)
  have BW := Three.new w1 (.int .i64 R0) (.int .i64 C0) (.slice aW l.length capW) 39
  go_wp2_with fail
  refine (C1.out _).mono ?_
  rintro e w2 ⟨aG, capG, rfl, oG, hg⟩
  have m2 := hg.size
  simp at m2
  replace BW := BW.kept hg (by simp)
  replace oW := own_kept oW hg
  replace G0 := gbt G0 hg
  clear hg
  have rG' : ∀ q, (.slice aG l.length capG : Value).ownBlock = some q → w1.heap.size + 1 ≤ q ∧ q < w2.heap.size := fun q e => by have := oG.lt q e; (try simp at this); omega
  have rG := Lib.hid rG'
  clear rG'
  replace G0 := gbt G0 (World.grownBy_alloc _ (.cells #[.int .i64 R0, .int .i64 C0, .slice aG l.length capG] 39) none)
  replace BW := BW.alloc (.cells #[.int .i64 R0, .int .i64 C0, .slice aG l.length capG] 39)
  replace oW := oW.alloc (.cells #[.int .i64 R0, .int .i64 C0, .slice aG l.length capG] 39)
  replace oG := oG.alloc (.cells #[.int .i64 R0, .int .i64 C0, .slice aG l.length capG] 39)
  have BG := Three.new w2 (.int .i64 R0) (.int .i64 C0) (.slice aG l.length capG) 39
  have BG_0 := BG.c0
  have BG_1 := BG.c1
  have BG_2 := BG.c2
  have BW_0 := BW.c0
  have BW_1 := BW.c1
  have BW_2 := BW.c2
  go_wp2_with fail
  refine (eqMatrix _ _ _ _ l _ (Sees.of_own oG) (Sees.of_own oW)).mono ?_
  rintro e w3 ⟨rfl, hg⟩
  clear BG_0 BG_1 BG_2
  clear BW_0 BW_1 BW_2
  have m3 := hg.size
  simp at m3
  replace BW := BW.kept hg (by simp)
  replace BG := BG.kept hg (by simp)
  replace oW := own_kept oW hg
  replace oG := own_kept oG hg
  replace G0 := gbt G0 hg
  clear hg
  have BG_0 := BG.c0
  have BG_1 := BG.c1
  have BG_2 := BG.c2
  go_wp2_with fail
  refine (markMatrix _ _ _ l.length _ _ 1 _ oG (by omega) (by decide)).mono ?_
  rintro e w4 ⟨rfl, oG', hg⟩
  clear BG_0 BG_1 BG_2
  have m4 := hg.size
  skip
  replace BW := BW.kept hg (by intro e; have := rG.out _ e.symm; omega)
  replace BG := BG.kept hg (by intro e; have := rG.out _ e.symm; omega)
  replace oW := oW.kept hg (ne_of rW.out rG.out (by intro q h1 h2; omega))
  replace G0 := gb_none G0 hg (fun q e => by have := rG.out _ e; omega)
  clear hg
  clear oG
  have BG_0 := BG.c0
  have BG_1 := BG.c1
  have BG_2 := BG.c2
  go_wp2_with fail
  refine (heldMatrix _ _ l.length _ 1 _ (Sees.of_own oG') (by omega) (by decide)).mono ?_
  rintro e w5 ⟨rfl, hg⟩
  clear BG_0 BG_1 BG_2
  have m5 := hg.size
  skip
  replace BW := BW.kept hg (by simp)
  replace BG := BG.kept hg (by simp)
  replace oW := own_kept oW hg
  replace oG' := own_kept oG' hg
  replace G0 := gbt G0 hg
  clear hg
  go_wp2_with fail
  refine (C1.out _).mono ?_
  rintro e w6 ⟨aH, capH, rfl, oH, hg⟩
  have m6 := hg.size
  skip
  replace BW := BW.kept hg (by simp)
  replace BG := BG.kept hg (by simp)
  replace oW := own_kept oW hg
  replace oG' := own_kept oG' hg
  replace G0 := gbt G0 hg
  clear hg
  replace G0 := gbt G0 (World.grownBy_alloc _ (.cells #[.int .i64 R0, .int .i64 C0, .slice aH l.length capH] 39) none)
  replace BW := BW.alloc (.cells #[.int .i64 R0, .int .i64 C0, .slice aH l.length capH] 39)
  replace BG := BG.alloc (.cells #[.int .i64 R0, .int .i64 C0, .slice aH l.length capH] 39)
  replace oW := oW.alloc (.cells #[.int .i64 R0, .int .i64 C0, .slice aH l.length capH] 39)
  replace oG' := oG'.alloc (.cells #[.int .i64 R0, .int .i64 C0, .slice aH l.length capH] 39)
  replace oH := oH.alloc (.cells #[.int .i64 R0, .int .i64 C0, .slice aH l.length capH] 39)
  have BH := Three.new w6 (.int .i64 R0) (.int .i64 C0) (.slice aH l.length capH) 39
  have BH_0 := BH.c0
  have BH_1 := BH.c1
  have BH_2 := BH.c2
  have BW_0 := BW.c0
  have BW_1 := BW.c1
  have BW_2 := BW.c2
  go_wp2_with fail
  refine (eqMatrix _ _ _ _ l _ (Sees.of_own oH) (Sees.of_own oW)).mono ?_
  rintro e w7 ⟨rfl, hg⟩
  clear BH_0 BH_1 BH_2
  clear BW_0 BW_1 BW_2
  have m7 := hg.size
  simp at m7
  replace BW := BW.kept hg (by simp)
  replace BG := BG.kept hg (by simp)
  replace BH := BH.kept hg (by simp)
  replace oW := own_kept oW hg
  replace oG' := own_kept oG' hg
  replace oH := own_kept oH hg
  replace G0 := gbt G0 hg
  clear hg
  have BG_0 := BG.c0
  have BG_1 := BG.c1
  have BG_2 := BG.c2
  go_wp2_with fail
  refine (heldMatrix _ _ l.length _ 1 _ (Sees.of_own oG') (by omega) (by decide)).mono ?_
  rintro e w8 ⟨rfl, hg⟩
  clear BG_0 BG_1 BG_2
  have m8 := hg.size
  skip
  replace BW := BW.kept hg (by simp)
  replace BG := BG.kept hg (by simp)
  replace BH := BH.kept hg (by simp)
  replace oW := own_kept oW hg
  replace oG' := own_kept oG' hg
  replace oH := own_kept oH hg
  replace G0 := gbt G0 hg
  clear hg
  go_wp2_with fail
  go_ret
  exact ⟨rfl, gb_below G0⟩
end Go.Proofs.Ythcochdkclmejaa.fnExactRandomMatrix
