/- The law FnExactSharedMatrixValid returns true for every shared matrix: the program's SharedMatrixValid and the reference's return the same, and the argument stays as it was. Conditions: none. The walk. -/
import Derived.Test.YthcochdkclmejaaSM
import Derived.WalkKit
import Derived.WalkLawsBesides
import Derived.WalkSpells
import Derived.Deep.RegionHeld3
namespace Go.Proofs.Ythcochdkclmejaa.fnExactSharedMatrixValid
open Go Go.RowKit
set_option linter.unusedVariables false

set_option maxHeartbeats 1600000 in
theorem walk (r0 c0 : Int) (a0 : Option Addr) (len0 cap0 : Nat) (z0 : List Int) (s0 e0 : Int) (b0 : Option Addr) (lem0 caq0 : Nat) (y0 : List Int) (w : World) (w0 : IsRow .i64 w a0 len0 cap0 z0) (u0 : IsRow .i64 w b0 lem0 caq0 y0) :
    Calls Try.prog 12 #[.agg #[.int .i64 r0, .int .i64 c0, .slice a0 len0 cap0, .int .i64 s0, .int .i64 e0, .slice b0 lem0 caq0]] w fun e w' => e = .returned (.bool true) ∧ Below w.heap.size w w' := by
  obtain ⟨xs, hx0, hxl⟩ := w0.sees
  subst hxl
  obtain ⟨ys, hy0, hyl⟩ := u0.sees
  subst hyl
  have G0 : w.grownBy (w.alloc (.cells #[.int .i64 r0, .int .i64 c0, .slice a0 xs.length cap0, .int .i64 s0, .int .i64 e0, .slice b0 ys.length caq0] 56)) none := World.grownBy_alloc _ _ _
  have A := Six.new w (.int .i64 r0) (.int .i64 c0) (.slice a0 xs.length cap0) (.int .i64 s0) (.int .i64 e0) (.slice b0 ys.length caq0) 56
  have hx1 := hx0.kept G0
  have hy1 := hy0.kept G0
  obtain ⟨q, hq⟩ : ∃ q, q = lk r0 c0 xs s0 e0 ys := ⟨_, rfl⟩
  have HQ := Lib.hid hq.symm
  clear hq
  by_cases hn : xs.length + ys.length ≤ 1048576
  · have hxn : xs.length ≤ 1048576 := by omega
    have hyn : ys.length ≤ 1048576 := by omega
    have ok : ¬ (1048576 - (xs.length : Int) - (ys.length : Int)) < 0 := by omega
    go_enter Try.func12, Try.ntmps12
    go_wp2_with fail
    refine (szSharedMatrix _ _ _ _ _ _ xs ys _ hx1 hy1 (1048576 - (xs.length : Int) - (ys.length : Int)) (by rw [if_pos hn])).mono ?_
    rintro e w1 ⟨rfl, hg⟩
    replace A := A.kept hg (by simp)
    replace G0 := gbt G0 hg
    clear hg hx1 hy1
    obtain ⟨p0, p1, p2, p3, p4, p5, _, _, _, _, _, _⟩ := id A
    go_wp2_with fail
    refine (toSharedMatrix _ _ _ _ _ _ xs ys _ (hx0.kept G0) (hy0.kept G0) hxn hyn).mono ?_
    rintro e w2 ⟨a2, k2, b2, l2, m2, rfl, o2, o2', hk, _, hg⟩
    replace A := A.kept hg (by simp)
    replace G0 := gbt G0 hg
    clear hg p0 p1 p2 p3 p4 p5
    go_wp2_with fail
    refine (sharedMatrixValid_s _ _ _ _ _ _ xs ys _ (Sees.of_own o2) (Sees.of_own o2') q HQ.out).mono ?_
    rintro e w3 ⟨rfl, hg⟩
    replace A := A.kept hg (by simp)
    replace G0 := gbt G0 hg
    clear hg o2 o2'
    obtain ⟨p0, p1, p2, p3, p4, p5, _, _, _, _, _, _⟩ := id A
    go_wp2_with fail
    refine (toSharedMatrix _ _ _ _ _ _ xs ys _ (hx0.kept G0) (hy0.kept G0) hxn hyn).mono ?_
    rintro e w4 ⟨a4, k4, b4, l4, m4, rfl, o4, o4', hk4, _, hg⟩
    have hgx := gbt hg (World.grownBy_alloc w4 (.cells #[.int .i64 r0, .int .i64 c0, .slice a4 xs.length k4, .int .i64 s0, .int .i64 e0, .slice b4 ys.length l4] 60) none)
    have X := Six.new w4 (.int .i64 r0) (.int .i64 c0) (.slice a4 xs.length k4) (.int .i64 s0) (.int .i64 e0) (.slice b4 ys.length l4) 60
    have s4 := (Sees.of_own o4).alloc (.cells #[.int .i64 r0, .int .i64 c0, .slice a4 xs.length k4, .int .i64 s0, .int .i64 e0, .slice b4 ys.length l4] 60)
    have t4 := (Sees.of_own o4').alloc (.cells #[.int .i64 r0, .int .i64 c0, .slice a4 xs.length k4, .int .i64 s0, .int .i64 e0, .slice b4 ys.length l4] 60)
    replace A := A.kept hgx (by simp)
    replace G0 := gbt G0 hgx
    clear hg hgx p0 p1 p2 p3 p4 p5 o4 o4'
    obtain ⟨q0, q1, q2, q3, q4, q5, _, _, _, _, _, _⟩ := id X
    go_wp2_with fail
    refine (sharedMatrixValid _ _ _ _ _ _ xs ys _ s4 t4 q HQ.out).mono ?_
    rintro e w5 ⟨rfl, hg⟩
    replace A := A.kept hg (by simp)
    replace X := X.kept hg (by simp)
    replace s4 := s4.kept hg
    replace t4 := t4.kept hg
    replace G0 := gbt G0 hg
    clear hg q0 q1 q2 q3 q4 q5
    obtain ⟨p0, p1, p2, p3, p4, p5, _, _, _, _, _, _⟩ := id A
    obtain ⟨q0, q1, q2, q3, q4, q5, _, _, _, _, _, _⟩ := id X
    have hne : (q != q) = false := by simp
    have HM : Hid (∀ w', w5.grownBy w' none → w'.cell? ⟨w.heap.size, 0, none⟩ = some (.int .i64 r0) ∧ w'.cell? ⟨w.heap.size, 1, none⟩ = some (.int .i64 c0) ∧ w'.cell? ⟨w.heap.size, 2, none⟩ = some (.slice a0 xs.length cap0) ∧ w'.cell? ⟨w.heap.size, 3, none⟩ = some (.int .i64 s0) ∧ w'.cell? ⟨w.heap.size, 4, none⟩ = some (.int .i64 e0) ∧ w'.cell? ⟨w.heap.size, 5, none⟩ = some (.slice b0 ys.length caq0) ∧
      w'.cell? ⟨w4.heap.size, 0, none⟩ = some (.int .i64 r0) ∧ w'.cell? ⟨w4.heap.size, 1, none⟩ = some (.int .i64 c0) ∧ w'.cell? ⟨w4.heap.size, 2, none⟩ = some (.slice a4 xs.length k4) ∧ w'.cell? ⟨w4.heap.size, 3, none⟩ = some (.int .i64 s0) ∧ w'.cell? ⟨w4.heap.size, 4, none⟩ = some (.int .i64 e0) ∧ w'.cell? ⟨w4.heap.size, 5, none⟩ = some (.slice b4 ys.length l4)) := fun w' h =>
      ⟨(A.kept h (by simp)).c0, (A.kept h (by simp)).c1, (A.kept h (by simp)).c2, (A.kept h (by simp)).c3, (A.kept h (by simp)).c4, (A.kept h (by simp)).c5, (X.kept h (by simp)).c0, (X.kept h (by simp)).c1, (X.kept h (by simp)).c2, (X.kept h (by simp)).c3, (X.kept h (by simp)).c4, (X.kept h (by simp)).c5⟩
    have hxD := hx0.kept (gbt G0 (gb_drew w5 none))
    have hyD := hy0.kept (gbt G0 (gb_drew w5 none))
    have s5 := s4.kept (gb_drew w5 none)
    have t5 := t4.kept (gb_drew w5 none)
    have K0 := gb_drew w5 none
    clear s4 t4
    go_wp2_with fail
    clear p0 p1 p2 p3 p4 p5 q0 q1 q2 q3 q4 q5
    go_region_held3 (fun w' => w'.cell? ⟨w.heap.size, 0, none⟩ = some (.int .i64 r0) ∧ w'.cell? ⟨w.heap.size, 1, none⟩ = some (.int .i64 c0) ∧ w'.cell? ⟨w.heap.size, 2, none⟩ = some (.slice a0 xs.length cap0) ∧ w'.cell? ⟨w.heap.size, 3, none⟩ = some (.int .i64 s0) ∧ w'.cell? ⟨w.heap.size, 4, none⟩ = some (.int .i64 e0) ∧ w'.cell? ⟨w.heap.size, 5, none⟩ = some (.slice b0 ys.length caq0) ∧
      w'.cell? ⟨w4.heap.size, 0, none⟩ = some (.int .i64 r0) ∧ w'.cell? ⟨w4.heap.size, 1, none⟩ = some (.int .i64 c0) ∧ w'.cell? ⟨w4.heap.size, 2, none⟩ = some (.slice a4 xs.length k4) ∧ w'.cell? ⟨w4.heap.size, 3, none⟩ = some (.int .i64 s0) ∧ w'.cell? ⟨w4.heap.size, 4, none⟩ = some (.int .i64 e0) ∧ w'.cell? ⟨w4.heap.size, 5, none⟩ = some (.slice b4 ys.length l4))
      (exact HM.out _ (by with_reducible assumption))
      (first
        | (go_at_call 44; have _t := K0; refine (toSharedMatrix _ _ _ _ _ _ xs ys _ hxD hyD hxn hyn).mono ?_; rintro e w6 ⟨a6, k6, b6, l6, m6, rfl, o6, o6', hk6, _, hg⟩; have K1 := gbt K0 hg; replace s5 := s5.kept hg; replace t5 := t5.kept hg; have s6 := Sees.of_own o6; have t6 := Sees.of_own o6'; clear K0 hg)
        | (go_at_call 46; have _t := K1; refine (eqSharedMatrix _ _ _ _ _ _ _ _ xs ys _ s5 t5 s6 t6).mono ?_; rintro e w7 ⟨rfl, hg⟩; have K2 := gbt K1 hg; clear K1 hg))
    go_wp2_with fail
    go_ret
    exact ⟨rfl, gb_below (gbt G0 K2)⟩
  · go_enter Try.func12, Try.ntmps12
    go_wp2_with fail
    refine (szSharedMatrix _ _ _ _ _ _ xs ys _ hx1 hy1 (-1) (by rw [if_neg hn])).mono ?_
    rintro e w1 ⟨rfl, hg⟩
    go_wp2_with fail
    go_ret
    exact ⟨rfl, gb_below (gbt G0 hg)⟩
end Go.Proofs.Ythcochdkclmejaa.fnExactSharedMatrixValid
