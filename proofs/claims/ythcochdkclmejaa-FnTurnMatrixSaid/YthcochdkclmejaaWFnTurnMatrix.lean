/- The law FnTurnMatrix returns true for every code: turning twice changes nothing, rows and columns are exchanged. Conditions: none. The walk. -/
import Derived.Test.YthcochdkclmejaaMLaw
import Derived.Test.YthcochdkclmejaaTurnP
import Derived.WalkKit
import Derived.WalkLawsBesides
import Derived.WalkSpells
import Derived.Deep.RegionHeld3
namespace Go.Proofs.Ythcochdkclmejaa.fnTurnMatrix
open Go Go.RowKit
set_option linter.unusedVariables false

theorem walk (a0 : Option Addr) (len0 cap0 : Nat) (z0 : List Int) (w : World) (w0 : IsRow .u8 w a0 len0 cap0 z0) :
    Calls Try.prog 13 #[.slice a0 len0 cap0] w fun e w' => e = .returned (.bool true) ∧ Below w.heap.size w w' := by
  by_cases hl : 1048576 < len0
  · have h1 : (1048576 : Int) < (len0 : Int) := by omega
    go_enter Try.func13, Try.ntmps13
    go_wp2
    go_ret
    exact ⟨rfl, Below.refl _ _⟩
  · have h1 : (len0 : Int) ≤ 1048576 := by omega
    go_enter Try.func13, Try.ntmps13
    go_wp2_with fail
    refine (drawTurnMatrix _ _ _ _ _ w0).mono ?_
    rintro e w1 ⟨r, c, a1, cap1, xs, rfl, ir, ic, hx, hx1, o1, G0⟩
    replace G0 := gbt G0 (World.grownBy_alloc _ (.cells #[.int .i64 r, .int .i64 c, .slice a1 xs.length cap1] 39) none)
    replace o1 := o1.alloc (.cells #[.int .i64 r, .int .i64 c, .slice a1 xs.length cap1] 39)
    have A1 := Three.new w1 (.int .i64 r) (.int .i64 c) (.slice a1 xs.length cap1) 39
    have q0 := A1.c0
    have q1 := A1.c1
    have q2 := A1.c2
    go_wp2_with fail
    by_cases hv : mv r c xs = true
    · skip
      refine (turnMatrix_yes r c _ xs _ (Sees.of_own o1) hv).mono ?_
      rintro e w2 ⟨a2, cap2, rfl, o2, hg⟩
      have m2 := hg.size
      (try simp at m2)
      clear q0 q1 q2
      replace A1 := (A1.kept hg (by simp)).alloc (.cells #[.int .i64 c, .int .i64 r, .slice a2 (turnL xs r.toNat c.toNat).length cap2] 39)
      replace o1 := (own_kept o1 hg).alloc (.cells #[.int .i64 c, .int .i64 r, .slice a2 (turnL xs r.toNat c.toNat).length cap2] 39)
      replace G0 := gbt (gbt G0 hg) (World.grownBy_alloc _ (.cells #[.int .i64 c, .int .i64 r, .slice a2 (turnL xs r.toNat c.toNat).length cap2] 39) none)
      replace o2 := o2.alloc (.cells #[.int .i64 c, .int .i64 r, .slice a2 (turnL xs r.toNat c.toNat).length cap2] 39)
      clear hg
      have A2 := Three.new w2 (.int .i64 c) (.int .i64 r) (.slice a2 (turnL xs r.toNat c.toNat).length cap2) 39
      have hs1 := (Sees.of_own (own_kept o1 (gb_drew _ none)))
      have hs2 := (Sees.of_own (own_kept o2 (gb_drew _ none)))
      have q0 := A1.c0
      have q1 := A1.c1
      have q2 := A1.c2
      have p0 := A2.c0
      have p1 := A2.c1
      have p2 := A2.c2
      have y1 := A1.lt
      have y2 := A2.lt
      go_wp2_with fail
      go_region_held3 (fun w' => w'.cell? ⟨w1.heap.size, 0, none⟩ = some (.int .i64 r) ∧ w'.cell? ⟨w1.heap.size, 1, none⟩ = some (.int .i64 c) ∧ w'.cell? ⟨w1.heap.size, 2, none⟩ = some (.slice a1 xs.length cap1) ∧ w'.cell? ⟨w2.heap.size, 0, none⟩ = some (.int .i64 c) ∧ w'.cell? ⟨w2.heap.size, 1, none⟩ = some (.int .i64 r) ∧ w'.cell? ⟨w2.heap.size, 2, none⟩ = some (.slice a2 (turnL xs r.toNat c.toNat).length cap2))
        (first | go_keep | (go_split_ands; (refine ⟨?_, ?_, ?_, ?_, ?_, ?_⟩ <;> first | exact hg2.cell (by assumption) (by simp) | exact hg1.cell (by assumption) (by simp))))
        (first | (go_at_call 49; refine (turnMatrix_s_yes r c _ xs _ hs1 (by omega) hv).mono ?_; rintro e u3 ⟨a3, cap3, rfl, o3, hg1⟩;  have hs3 := Sees.of_own o3; replace hs2 := hs2.kept hg1) | (go_at_call 41; refine (sameMatrix c r _ _ _ _ hs2 hs3).mono ?_; rintro e w3 ⟨rfl, hg2⟩))
      clear q0 q1 q2 p0 p1 p2
      have hg : ((w2.alloc (.cells #[.int .i64 c, .int .i64 r, .slice a2 (turnL xs r.toNat c.toNat).length cap2] 39))).grownBy w3 none := gbt (gb_drew _ none) (gbt hg1 hg2)
      clear hg1 hg2 hs1 hs2 hs3 o3 y1 y2
      replace A1 := A1.kept hg (by simp)
      replace A2 := A2.kept hg (by simp)
      replace o1 := own_kept o1 hg
      replace o2 := own_kept o2 hg
      replace G0 := gbt G0 hg
      clear hg
      have q0 := A1.c0
      have q1 := A1.c1
      have q2 := A1.c2
      go_wp2_with fail
      refine (matrixValid_s r c _ xs _ (Sees.of_own o1)).mono ?_
      rintro e w4 ⟨rfl, hg⟩
      clear q0 q1 q2
      replace A1 := A1.kept hg (by simp)
      replace A2 := A2.kept hg (by simp)
      replace o1 := own_kept o1 hg
      replace o2 := own_kept o2 hg
      replace G0 := gbt G0 hg
      clear hg
      have hs1 := (Sees.of_own (own_kept o1 (gb_drew _ none)))
      have hs2 := (Sees.of_own (own_kept o2 (gb_drew _ none)))
      have q0 := A1.c0
      have q1 := A1.c1
      have q2 := A1.c2
      have p0 := A2.c0
      have p1 := A2.c1
      have p2 := A2.c2
      have y1 := A1.lt
      have y2 := A2.lt
      go_wp2_with fail
      go_region_held3 (fun w' => w'.cell? ⟨w1.heap.size, 0, none⟩ = some (.int .i64 r) ∧ w'.cell? ⟨w1.heap.size, 1, none⟩ = some (.int .i64 c) ∧ w'.cell? ⟨w1.heap.size, 2, none⟩ = some (.slice a1 xs.length cap1) ∧ w'.cell? ⟨w2.heap.size, 0, none⟩ = some (.int .i64 c) ∧ w'.cell? ⟨w2.heap.size, 1, none⟩ = some (.int .i64 r) ∧ w'.cell? ⟨w2.heap.size, 2, none⟩ = some (.slice a2 (turnL xs r.toNat c.toNat).length cap2))
        (first | go_keep | (go_split_ands; (refine ⟨?_, ?_, ?_, ?_, ?_, ?_⟩ <;> first | exact hg2.cell (by assumption) (by simp) | exact hg1.cell (by assumption) (by simp))))
        (first | (go_at_call 48; refine (turnMatrix_back r c _ xs _ hs2 hv).mono ?_; rintro e u5 ⟨a5, cap5, rfl, o5, hg1⟩; have hs5 := Sees.of_own o5; replace hs1 := hs1.kept hg1) | (go_at_call 41; refine (sameMatrix r c _ _ _ _ hs5 hs1).mono ?_; rintro e w5 ⟨rfl, hg2⟩))
      go_wp2_with fail
      go_ret
      exact ⟨rfl, gb_below (gbt G0 (gbt (gb_drew _ none) (gbt hg1 hg2)))⟩
    · replace hv : mv r c xs = false := by simpa using hv
      refine (turnMatrix_no r c _ xs _ (Sees.of_own o1) hv).mono ?_
      rintro e w2 ⟨a2, cap2, rfl, o2, hg⟩
      have m2 := hg.size
      (try simp at m2)
      simp only [List.length_nil] at o2
      clear q0 q1 q2
      replace A1 := (A1.kept hg (by simp)).alloc (.cells #[.int .i64 0, .int .i64 0, .slice a2 0 cap2] 39)
      replace o1 := (own_kept o1 hg).alloc (.cells #[.int .i64 0, .int .i64 0, .slice a2 0 cap2] 39)
      replace G0 := gbt (gbt G0 hg) (World.grownBy_alloc _ (.cells #[.int .i64 0, .int .i64 0, .slice a2 0 cap2] 39) none)
      replace o2 := o2.alloc (.cells #[.int .i64 0, .int .i64 0, .slice a2 0 cap2] 39)
      clear hg
      have A2 := Three.new w2 (.int .i64 0) (.int .i64 0) (.slice a2 0 cap2) 39
      have hs1 := (Sees.of_own (own_kept o1 (gb_drew _ none)))
      have hs2 := (Sees.of_own (own_kept o2 (gb_drew _ none)))
      have q0 := A1.c0
      have q1 := A1.c1
      have q2 := A1.c2
      have p0 := A2.c0
      have p1 := A2.c1
      have p2 := A2.c2
      have y1 := A1.lt
      have y2 := A2.lt
      go_wp2_with fail
      go_region_held3 (fun w' => w'.cell? ⟨w1.heap.size, 0, none⟩ = some (.int .i64 r) ∧ w'.cell? ⟨w1.heap.size, 1, none⟩ = some (.int .i64 c) ∧ w'.cell? ⟨w1.heap.size, 2, none⟩ = some (.slice a1 xs.length cap1) ∧ w'.cell? ⟨w2.heap.size, 0, none⟩ = some (.int .i64 0) ∧ w'.cell? ⟨w2.heap.size, 1, none⟩ = some (.int .i64 0) ∧ w'.cell? ⟨w2.heap.size, 2, none⟩ = some (.slice a2 0 cap2))
        (first | go_keep | (go_split_ands; (refine ⟨?_, ?_, ?_, ?_, ?_, ?_⟩ <;> first | exact hg2.cell (by assumption) (by simp) | exact hg1.cell (by assumption) (by simp))))
        (first | (go_at_call 49; refine (turnMatrix_s_no r c _ xs _ hs1 (by omega) hv).mono ?_; rintro e u3 ⟨a3, cap3, rfl, o3, hg1⟩; simp only [List.length_nil] at o3; have hs3 := Sees.of_own o3; replace hs2 := hs2.kept hg1) | (go_at_call 41; refine (sameMatrix 0 0 _ _ _ _ hs2 hs3).mono ?_; rintro e w3 ⟨rfl, hg2⟩))
      clear q0 q1 q2 p0 p1 p2
      have hg : ((w2.alloc (.cells #[.int .i64 0, .int .i64 0, .slice a2 0 cap2] 39))).grownBy w3 none := gbt (gb_drew _ none) (gbt hg1 hg2)
      clear hg1 hg2 hs1 hs2 hs3 o3 y1 y2
      replace A1 := A1.kept hg (by simp)
      replace A2 := A2.kept hg (by simp)
      replace o1 := own_kept o1 hg
      replace o2 := own_kept o2 hg
      replace G0 := gbt G0 hg
      clear hg
      have q0 := A1.c0
      have q1 := A1.c1
      have q2 := A1.c2
      go_wp2_with fail
      refine (matrixValid_s r c _ xs _ (Sees.of_own o1)).mono ?_
      rintro e w4 ⟨rfl, hg⟩
      clear q0 q1 q2
      replace A1 := A1.kept hg (by simp)
      replace A2 := A2.kept hg (by simp)
      replace o1 := own_kept o1 hg
      replace o2 := own_kept o2 hg
      replace G0 := gbt G0 hg
      clear hg
      have p0 := A2.c0
      go_wp2_with (go_at_call 20; refine (alive _).mono ?_; rintro e w' ⟨rfl, rfl⟩)
      go_ret
      exact ⟨rfl, gb_below G0⟩
end Go.Proofs.Ythcochdkclmejaa.fnTurnMatrix
