/- The law FnJoinShares returns true for every code: exchanged shares are joined to the same, and split again they are the same. Conditions: none. The walk. -/
import Derived.Test.YthcochdkclmejaaDraw
import Derived.Test.YthcochdkclmejaaInts
import Derived.Test.YthcochdkclmejaaLawPlain
import Derived.WalkKit
import Derived.WalkLawsBesides
import Derived.WalkSpells
import Derived.Deep.RegionHeld3
namespace Go.Proofs.Ythcochdkclmejaa.fnJoinShares
open Go Go.RowKit
set_option linter.unusedVariables false

theorem walk (a0 : Option Addr) (len0 cap0 : Nat) (z0 : List Int) (w : World) (w0 : IsRow .u8 w a0 len0 cap0 z0) :
    Calls Try.prog 5 #[.slice a0 len0 cap0] w fun e w' => e = .returned (.bool true) ∧ Below w.heap.size w w' := by
  by_cases hl : 1048576 < len0
  · have h1 : (1048576 : Int) < (len0 : Int) := by omega
    go_enter Try.func5, Try.ntmps5
    go_wp2
    go_ret
    exact ⟨rfl, Below.refl _ _⟩
  · have h1 : (len0 : Int) ≤ 1048576 := by omega
    go_enter Try.func5, Try.ntmps5
    go_wp2_with fail
    refine (drawJoinShares _ _ _ _ _ w0).mono ?_
    rintro e w1 ⟨v, ⟨x, y, rfl, hx, hy⟩, rfl, hb⟩
    have G0 := below_gb hb
    clear hb
    have T1 := Two.new w1 (.int .i64 x) (.int .i64 y) 26
    replace G0 := gbt G0 (World.grownBy_alloc _ (.cells #[.int .i64 x, .int .i64 y] 26) none)
    have p0 := T1.c0
    have p1 := T1.c1
    go_wp2_with fail
    refine (joinShares x y _).mono ?_
    rintro e w2 ⟨rfl, hb⟩
    replace T1 := T1.kept (below_gb hb) (by simp)
    replace G0 := gbt G0 (below_gb hb)
    clear hb p0 p1
    have p0 := T1.c0
    have p1 := T1.c1
    go_wp2_with fail
    refine (joinShares_s x y _).mono ?_
    rintro e w3 ⟨rfl, hb⟩
    replace T1 := T1.kept (below_gb hb) (by simp)
    replace G0 := gbt G0 (below_gb hb)
    clear hb p0 p1
    have hd : (addr x y != addr x y) = false := by simp
    by_cases hv : rv x = true ∧ rv y = true
    · obtain ⟨f1, f2, f3, f4⟩ := join_yes hv.1 hv.2
      have F3 : Hid (splf (addr x y) x = x) := f3
      have F4 : Hid (subr (addr x y) x = y) := f4
      clear f3 f4
      have z1 := T1.lt
      have p0 := T1.c0
      have p1 := T1.c1
      have e1 : (x == x) = true := by simp
      have e2 : (y == y) = true := by simp
      have C2 : ∀ W : World, Calls Try.prog 16 #[.int .i64 (addr x y), .int .i64 x] W fun e w' => e = .returned (.agg #[.int .i64 x, .int .i64 y]) ∧ Below W.heap.size W w' := fun W => by
        have := splitNumber (addr x y) x W
        rw [F3.out, F4.out] at this
        exact this
      have D2 := Lib.hid C2
      clear C2
      go_wp2_with fail
      go_region_held3 (fun w' => w'.cell? ⟨w1.heap.size, 0, none⟩ = some (.int .i64 x) ∧ w'.cell? ⟨w1.heap.size, 1, none⟩ = some (.int .i64 y))
        (first | go_keep | (go_split_ands; (refine ⟨?_, ?_⟩ <;> first | exact hg5.cell (by assumption) (by simp) | exact hg4.cell (by assumption) (by simp))))
        (first | (go_at_call 18; refine (joinShares y x _).mono ?_; rintro e w4 ⟨rfl, hb4⟩; have hg4 := below_gb hb4) | (go_at_call 16; refine (D2.out _).mono ?_; rintro e w5 ⟨rfl, hb5⟩; have hg5 := below_gb hb5))
      go_wp2_with fail
      go_ret
      exact ⟨rfl, gb_below (gbt G0 (gbt (gb_drew _ none) (gbt hg4 hg5)))⟩
    · have hn := addr_bad (by cases hx2 : rv x <;> cases hy2 : rv y <;> simp_all : rv x = false ∨ rv y = false)
      go_wp2_with (go_at_call 20; refine (alive _).mono ?_; rintro e w' ⟨rfl, rfl⟩)
      go_ret
      exact ⟨rfl, gb_below G0⟩
end Go.Proofs.Ythcochdkclmejaa.fnJoinShares
