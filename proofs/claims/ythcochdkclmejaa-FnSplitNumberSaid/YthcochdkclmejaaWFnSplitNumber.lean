/- The law FnSplitNumber returns true for every code: JoinShares leads back to the number and the first share is the random number. Conditions: none. The walk. -/
import Derived.Test.YthcochdkclmejaaDraw
import Derived.Test.YthcochdkclmejaaInts
import Derived.Test.YthcochdkclmejaaLawPlain
import Derived.WalkKit
import Derived.WalkLawsBesides
import Derived.WalkSpells
import Derived.Deep.RegionHeld3
namespace Go.Proofs.Ythcochdkclmejaa.fnSplitNumber
open Go Go.RowKit
set_option linter.unusedVariables false

theorem walk (a0 : Option Addr) (len0 cap0 : Nat) (z0 : List Int) (w : World) (w0 : IsRow .u8 w a0 len0 cap0 z0) :
    Calls Try.prog 4 #[.slice a0 len0 cap0] w fun e w' => e = .returned (.bool true) ∧ Below w.heap.size w w' := by
  by_cases hl : 1048576 < len0
  · have h1 : (1048576 : Int) < (len0 : Int) := by omega
    go_enter Try.func4, Try.ntmps4
    go_wp2
    go_ret
    exact ⟨rfl, Below.refl _ _⟩
  · have h1 : (len0 : Int) ≤ 1048576 := by omega
    go_enter Try.func4, Try.ntmps4
    go_wp2_with fail
    refine (drawSplitNumber _ _ _ _ _ w0).mono ?_
    rintro e w1 ⟨v, ⟨x, y, rfl, hx, hy⟩, rfl, hb⟩
    have G0 := below_gb hb
    clear hb
    go_wp2_with fail
    refine (splitNumber x y _).mono ?_
    rintro e w2 ⟨rfl, hb⟩
    replace G0 := gbt (gbt G0 (below_gb hb)) (World.grownBy_alloc _ (.cells #[.int .i64 (splf x y), .int .i64 (subr x y)] 26) none)
    clear hb
    have T1 := Two.new w2 (.int .i64 (splf x y)) (.int .i64 (subr x y)) 26
    have hd1 : (splf x y != splf x y) = false := by simp
    have hd2 : (subr x y != subr x y) = false := by simp
    have z1 := T1.lt
    have p0 := T1.c0
    have p1 := T1.c1
    go_wp2_with fail
    go_region_held3 (fun w' => w'.cell? ⟨w2.heap.size, 0, none⟩ = some (.int .i64 (splf x y)) ∧ w'.cell? ⟨w2.heap.size, 1, none⟩ = some (.int .i64 (subr x y)))
      (first | go_keep | (go_split_ands; (refine ⟨?_, ?_⟩ <;> first | exact hg3.cell (by assumption) (by simp))))
      (first | (go_at_call 17; refine (splitNumber_s x y _).mono ?_; rintro e w3 ⟨rfl, hb⟩; have hg3 := below_gb hb))
    replace T1 := (T1.kept (gb_drew _ none) (by simp)).kept hg3 (by simp)
    replace G0 := gbt (gbt G0 (gb_drew _ none)) hg3
    clear hg3 p0 p1 hb
    have p0 := T1.c0
    have p1 := T1.c1
    go_wp2_with fail
    refine (sharedValid (splf x y) (subr x y) _).mono ?_
    rintro e w4 ⟨rfl, hb⟩
    replace T1 := T1.kept (below_gb hb) (by simp)
    replace G0 := gbt G0 (below_gb hb)
    clear hb p0 p1
    by_cases hv : rv x = true ∧ rv y = true
    · obtain ⟨f1, f2, f3, f4⟩ := split_yes hv.1 hv.2
      have p0 := T1.c0
      have p1 := T1.c1
      go_wp2_with fail
      refine (joinShares (splf x y) (subr x y) _).mono ?_
      rintro e w5 ⟨rfl, hb⟩
      replace T1 := T1.kept (below_gb hb) (by simp)
      replace G0 := gbt G0 (below_gb hb)
      clear hb p0 p1
      have p0 := T1.c0
      have p1 := T1.c1
      go_wp2_with fail
      go_ret
      exact ⟨rfl, gb_below G0⟩
    · have hv' : rv x = false ∨ rv y = false := by cases hx2 : rv x <;> cases hy2 : rv y <;> simp_all
      obtain ⟨f1, f2, f3, f4⟩ := split_bad hv'
      have p0 := T1.c0
      have p1 := T1.c1
      go_wp2_with (go_at_call 20; refine (alive _).mono ?_; rintro e w' ⟨rfl, rfl⟩)
      go_ret
      exact ⟨rfl, gb_below G0⟩
end Go.Proofs.Ythcochdkclmejaa.fnSplitNumber
