/- The law FnSplitTwice returns true for every two codes: a number that is split, joined and split again is the same number. Conditions: none. The walk. -/
import Derived.Test.YthcochdkclmejaaDraw
import Derived.Test.YthcochdkclmejaaInts
import Derived.Test.YthcochdkclmejaaLawPlain
import Derived.WalkKit
import Derived.WalkLawsBesides
import Derived.WalkSpells
import Derived.Deep.RegionHeld3
namespace Go.Proofs.Ythcochdkclmejaa.fnSplitTwice
open Go Go.RowKit
set_option linter.unusedVariables false

theorem walk (a0 : Option Addr) (len0 cap0 : Nat) (z0 : List Int) (a1 : Option Addr) (len1 cap1 : Nat) (z1 : List Int) (w : World) (w0 : IsRow .u8 w a0 len0 cap0 z0) (w1 : IsRow .u8 w a1 len1 cap1 z1) :
    Calls Try.prog 3 #[.slice a0 len0 cap0, .slice a1 len1 cap1] w fun e w' => e = .returned (.bool true) ∧ Below w.heap.size w w' := by
  by_cases hl : 1048576 < len0
  · have h1 : (1048576 : Int) < (len0 : Int) := by omega
    go_enter Try.func3, Try.ntmps3
    go_wp2
    go_ret
    exact ⟨rfl, Below.refl _ _⟩
  · have h1 : (len0 : Int) ≤ 1048576 := by omega
    by_cases hl2 : 1048576 < len1
    · have h2 : (1048576 : Int) < (len1 : Int) := by omega
      go_enter Try.func3, Try.ntmps3
      go_wp2
      go_ret
      exact ⟨rfl, Below.refl _ _⟩
    · have h2 : (len1 : Int) ≤ 1048576 := by omega
      go_enter Try.func3, Try.ntmps3
      go_wp2_with fail
      refine (drawSplitNumber _ _ _ _ _ w0).mono ?_
      rintro e w2 ⟨v, ⟨x, y, rfl, hx, hy⟩, rfl, hb⟩
      have G0 := below_gb hb
      clear hb
      go_wp2_with fail
      refine (splitNumber x y _).mono ?_
      rintro e w3 ⟨rfl, hb⟩
      replace G0 := gbt (gbt G0 (below_gb hb)) (World.grownBy_alloc _ (.cells #[.int .i64 (splf x y), .int .i64 (subr x y)] 26) none)
      clear hb
      have T1 := Two.new w3 (.int .i64 (splf x y)) (.int .i64 (subr x y)) 26
      have hd1 : (splf x y != splf x y) = false := by simp
      have hd2 : (subr x y != subr x y) = false := by simp
      have z1 := T1.lt
      have p0 := T1.c0
      have p1 := T1.c1
      go_wp2_with fail
      go_region_held3 (fun w' => w'.cell? ⟨w3.heap.size, 0, none⟩ = some (.int .i64 (splf x y)) ∧ w'.cell? ⟨w3.heap.size, 1, none⟩ = some (.int .i64 (subr x y)))
        (first | go_keep | (go_split_ands; (refine ⟨?_, ?_⟩ <;> first | exact hg4.cell (by assumption) (by simp))))
        (first | (go_at_call 17; refine (splitNumber_s x y _).mono ?_; rintro e w4 ⟨rfl, hb⟩; have hg4 := below_gb hb))
      replace T1 := (T1.kept (gb_drew _ none) (by simp)).kept hg4 (by simp)
      replace G0 := gbt (gbt G0 (gb_drew _ none)) hg4
      clear hg4 p0 p1 hb
      go_wp2_with fail
      refine (drawSplitNumber _ _ _ _ _ (w1.kept G0)).mono ?_
      rintro e w5 ⟨v, ⟨b, b', rfl, hb1, hb2⟩, rfl, hb⟩
      replace T1 := T1.kept (below_gb hb) (by simp)
      replace G0 := gbt G0 (below_gb hb)
      clear hb
      have p0 := T1.c0
      have p1 := T1.c1
      go_wp2_with fail
      refine (joinShares (splf x y) (subr x y) _).mono ?_
      rintro e w6 ⟨rfl, hb⟩
      replace T1 := T1.kept (below_gb hb) (by simp)
      replace G0 := gbt G0 (below_gb hb)
      clear hb p0 p1
      generalize hj : addr (splf x y) (subr x y) = j
      have HJ := Lib.hid hj
      clear hj
      go_wp2_with fail
      refine (splitNumber j b _).mono ?_
      rintro e w7 ⟨rfl, hb⟩
      replace T1 := (T1.kept (below_gb hb) (by simp)).alloc (.cells #[.int .i64 (splf j b), .int .i64 (subr j b)] 26)
      replace G0 := gbt (gbt G0 (below_gb hb)) (World.grownBy_alloc _ (.cells #[.int .i64 (splf j b), .int .i64 (subr j b)] 26) none)
      have T2 := Two.new w7 (.int .i64 (splf j b)) (.int .i64 (subr j b)) 26
      clear hb
      have p0 := T1.c0
      have p1 := T1.c1
      go_wp2_with fail
      refine (sharedValid (splf x y) (subr x y) _).mono ?_
      rintro e w8 ⟨rfl, hb⟩
      replace T2 := T2.kept (below_gb hb) (by simp)
      replace G0 := gbt G0 (below_gb hb)
      clear hb p0 p1 T1
      by_cases hv : rv x = true ∧ rv y = true
      · obtain ⟨f1, f2, f3, f4⟩ := split_yes hv.1 hv.2
        have ej : j = x := by rw [← HJ.out]; simpa using f3
        have p0 := T2.c0
        have p1 := T2.c1
        by_cases hw : rv b = true
        · obtain ⟨k1, k2, k3, k4⟩ := split_yes hv.1 hw
          rw [← ej] at k1 k2 k3
          rw [ej] at k3
          have k3' : (addr (splf j b) (subr j b) == x) = true := by rw [ej]; exact k3
          clear HJ ej k3 k4
          go_wp2_with fail
          refine (sharedValid (splf j b) (subr j b) _).mono ?_
          rintro e w9 ⟨rfl, hb⟩
          replace T2 := T2.kept (below_gb hb) (by simp)
          replace G0 := gbt G0 (below_gb hb)
          clear hb p0 p1
          have p0 := T2.c0
          have p1 := T2.c1
          go_wp2_with fail
          refine (joinShares (splf j b) (subr j b) _).mono ?_
          rintro e w10 ⟨rfl, hb⟩
          replace G0 := gbt G0 (below_gb hb)
          clear hb p0 p1 T2
          go_wp2_with fail
          go_ret
          exact ⟨rfl, gb_below G0⟩
        · obtain ⟨k1, k2, k3, k4⟩ := split_bad (.inr (by simpa using hw) : rv j = false ∨ rv b = false)
          clear HJ ej
          go_wp2_with fail
          refine (sharedValid (splf j b) (subr j b) _).mono ?_
          rintro e w9 ⟨rfl, hb⟩
          replace G0 := gbt G0 (below_gb hb)
          clear hb p0 p1 T2
          go_wp2_with fail
          go_ret
          exact ⟨rfl, gb_below G0⟩
      · obtain ⟨f1, f2, f3, f4⟩ := split_bad (by cases hx2 : rv x <;> cases hy2 : rv y <;> simp_all : rv x = false ∨ rv y = false)
        go_wp2_with fail
        go_ret
        exact ⟨rfl, gb_below G0⟩
end Go.Proofs.Ythcochdkclmejaa.fnSplitTwice
