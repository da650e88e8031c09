/- The law FnExactMatrixValid returns true for every matrix: the program's MatrixValid and the reference's return the same, and the matrix stays as it was. Conditions: none. The walk. -/
import Derived.Test.YthcochdkclmejaaMatB
import Derived.WalkKit
import Derived.WalkLawsBesides
import Derived.WalkSpells
import Derived.Deep.RegionHeld3
namespace Go.Proofs.Ythcochdkclmejaa.fnExactMatrixValid
open Go Go.RowKit
set_option linter.unusedVariables false

theorem walk (r0 c0 : Int) (a0 : Option Addr) (len0 cap0 : Nat) (z0 : List Int) (w : World) (wr0 : (Lit.int .i64 r0).wf = true) (wc0 : (Lit.int .i64 c0).wf = true) (w0 : IsRow .i64 w a0 len0 cap0 z0) :
    Calls Try.prog 6 #[.agg #[.int .i64 r0, .int .i64 c0, .slice a0 len0 cap0]] w fun e w' => e = .returned (.bool true) ∧ Below w.heap.size w w' := by
  obtain ⟨xs, hs, hxl⟩ := w0.sees
  subst hxl
  have G0 : w.grownBy (w.alloc (.cells #[.int .i64 r0, .int .i64 c0, .slice a0 xs.length cap0] 36)) none := World.grownBy_alloc _ _ _
  have T0 := Three.new w (.int .i64 r0) (.int .i64 c0) (.slice a0 xs.length cap0) 36
  replace hs := hs.kept G0
  by_cases hn : xs.length ≤ 1048576
  · have hn' : ¬ (1048576 : Int) - xs.length < 0 := by omega
    go_enter Try.func6, Try.ntmps6
    go_wp2_with fail
    refine (szMatrix _ _ _ xs 1048576 (1048576 - xs.length) _ hs (by decide) (szL_ok (by omega))).mono ?_
    rintro e w1 ⟨rfl, hg⟩
    replace hs := hs.kept hg
    replace T0 := T0.kept hg (by simp)
    replace G0 := gbt G0 hg
    clear hg
    have T0a := T0.c0
    have T0b := T0.c1
    have T0c := T0.c2
    go_wp2_with fail
    refine (toMatrix _ _ _ xs _ hs hn).mono ?_
    rintro e w2 ⟨v1, rfl, ho1, hg⟩
    clear T0a T0b T0c
    obtain ⟨a1, cap1, rfl⟩ := own_slice ho1
    replace hs := hs.kept hg
    replace T0 := T0.kept hg (by simp)
    replace G0 := gbt G0 hg
    clear hg
    go_wp2_with fail
    refine (matrixValid_s _ _ _ xs _ (Sees.of_own ho1)).mono ?_
    rintro e w3 ⟨rfl, hg⟩
    clear ho1
    replace hs := hs.kept hg
    replace T0 := T0.kept hg (by simp)
    replace G0 := gbt G0 hg
    clear hg
    have T0a := T0.c0
    have T0b := T0.c1
    have T0c := T0.c2
    go_wp2_with fail
    refine (toMatrix _ _ _ xs _ hs hn).mono ?_
    rintro e w4 ⟨v2, rfl, ho2, hg⟩
    clear T0a T0b T0c
    obtain ⟨a2, cap2, rfl⟩ := own_slice ho2
    replace hs := hs.kept hg
    replace T0 := T0.kept hg (by simp)
    replace G0 := gbt G0 hg
    clear hg
    replace hs := hs.alloc (.cells #[.int .i64 r0, .int .i64 c0, .slice a2 xs.length cap2] 39)
    replace T0 := T0.alloc (.cells #[.int .i64 r0, .int .i64 c0, .slice a2 xs.length cap2] 39)
    replace ho2 := ho2.alloc (.cells #[.int .i64 r0, .int .i64 c0, .slice a2 xs.length cap2] 39)
    replace G0 := gbt G0 (World.grownBy_alloc _ (.cells #[.int .i64 r0, .int .i64 c0, .slice a2 xs.length cap2] 39) none)
    have T2 := Three.new w4 (.int .i64 r0) (.int .i64 c0) (.slice a2 xs.length cap2) 39
    have T2a := T2.c0
    have T2b := T2.c1
    have T2c := T2.c2
    go_wp2_with fail
    refine (matrixValid _ _ _ xs _ (Sees.of_own ho2)).mono ?_
    rintro e w5 ⟨rfl, hg⟩
    clear T2a T2b T2c
    replace hs := hs.kept hg
    replace T0 := T0.kept hg (by simp)
    replace ho2 := own_kept ho2 hg
    replace T2 := T2.kept hg (by simp)
    replace G0 := gbt G0 hg
    clear hg
    have hd : (mv r0 c0 xs != mv r0 c0 xs) = false := by simp
    have z0 := T0.lt
    have z2 := T2.lt
    have hs5 := hs.kept (gb_drew w5 none)
    have hx5 := (Sees.of_own ho2).kept (gb_drew w5 none)
    obtain ⟨p0, p1, p2, _, _, _⟩ := T0
    obtain ⟨q0, q1, q2, _, _, _⟩ := T2
    clear hs ho2
    go_wp2_with fail
    go_region_held3 (fun w' => w'.cell? ⟨w.heap.size, 0, none⟩ = some (.int .i64 r0) ∧ w'.cell? ⟨w.heap.size, 1, none⟩ = some (.int .i64 c0) ∧ w'.cell? ⟨w.heap.size, 2, none⟩ = some (.slice a0 xs.length cap0) ∧
        w'.cell? ⟨w4.heap.size, 0, none⟩ = some (.int .i64 r0) ∧ w'.cell? ⟨w4.heap.size, 1, none⟩ = some (.int .i64 c0) ∧ w'.cell? ⟨w4.heap.size, 2, none⟩ = some (.slice a2 xs.length cap2))
      (first | go_keep | (go_split_ands; (refine ⟨?_, ?_, ?_, ?_, ?_, ?_⟩ <;> first | exact hg7.cell (by assumption) (by simp) | exact hg6.cell (by assumption) (by simp))))
      (first | (go_at_call 25; refine (toMatrix _ _ _ xs _ hs5 hn).mono ?_; rintro e w6 ⟨v6, rfl, ho6, hg6⟩; obtain ⟨a6, cap6, rfl⟩ := own_slice ho6; have hx6 := hx5.kept hg6; have hv6 := Sees.of_own ho6; clear hx5 hs5) | (go_at_call 27; refine (eqMatrix _ _ _ _ xs _ hx6 hv6).mono ?_; rintro e w7 ⟨rfl, hg7⟩))
    go_wp2
    go_ret
    exact ⟨rfl, gb_below (gbt G0 (gbt (gb_drew _ _) (gbt hg6 hg7)))⟩
  · have hb : ¬ (xs.length : Int) ≤ 1048576 := by omega
    go_enter Try.func6, Try.ntmps6
    go_wp2_with fail
    refine (szMatrix _ _ _ xs 1048576 (-1) _ hs (by decide) (szL_big (by omega))).mono ?_
    rintro e w1 ⟨rfl, hg⟩
    go_wp2
    go_ret
    exact ⟨rfl, gb_below (gbt G0 hg)⟩
end Go.Proofs.Ythcochdkclmejaa.fnExactMatrixValid
