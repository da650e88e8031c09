/- The law FnExactTurnMatrix returns true for every matrix: the program's TurnMatrix and the reference's return the same, in memory of its own, and the arguments stay as they were. Conditions: none. The walk. -/
import Derived.Test.YthcochdkclmejaaCol
import Derived.WalkKit
import Derived.WalkLawsBesides
import Derived.WalkSpells
import Derived.Deep.RegionHeld3
namespace Go.Proofs.Ythcochdkclmejaa.fnExactTurnMatrix
open Go Go.RowKit
set_option linter.unusedVariables false

theorem walk (r0 c0 : Int) (a0 : Option Addr) (len0 cap0 : Nat) (z0 : List Int) (w : World) (wr0 : (Lit.int .i64 r0).wf = true) (wc0 : (Lit.int .i64 c0).wf = true) (w0 : IsRow .i64 w a0 len0 cap0 z0) :
    Calls Try.prog 14 #[.agg #[.int .i64 r0, .int .i64 c0, .slice a0 len0 cap0]] w fun e w' => e = .returned (.bool true) ∧ Below w.heap.size w w' := by
  obtain ⟨xs0, hs0, hxl0⟩ := w0.sees
  subst hxl0
  have G0 : w.grownBy (w.alloc (.cells #[.int .i64 r0, .int .i64 c0, .slice a0 xs0.length cap0] 36)) none := World.grownBy_alloc _ _ _
  have A0 := Three.new w (.int .i64 r0) (.int .i64 c0) (.slice a0 xs0.length cap0) 36
  by_cases hn0 : xs0.length ≤ 1048576
  · skip
    go_enter Try.func14, Try.ntmps14
    have ok0 : ¬ (1048576 - (xs0.length : Int)) < 0 := by omega
    have A0a := A0.c0
    have A0b := A0.c1
    have A0c := A0.c2
    go_wp2_with fail
    refine (szMatrix _ _ _ xs0 (1048576) (1048576 - (xs0.length : Int)) _ (hs0.kept G0) (by constructor <;> omega) (szL_ok (by omega))).mono ?_
    rintro e w1 ⟨rfl, hg⟩
    clear A0a A0b A0c
    have m1 := hg.size
    simp at m1
    replace A0 := A0.kept hg (by simp)
    replace G0 := gbt G0 hg
    clear hg
    have A0a := A0.c0
    have A0b := A0.c1
    have A0c := A0.c2
    go_wp2_with fail
    refine (toMatrix _ _ _ xs0 _ (hs0.kept G0) (by omega)).mono ?_
    rintro e w2 ⟨vs0, rfl, os0, hg⟩
    clear A0a A0b A0c
    have m2 := hg.size
    skip
    obtain ⟨as0, caps0, rfl⟩ := own_slice os0
    replace A0 := A0.kept hg (by simp)
    replace G0 := gbt G0 hg
    clear hg
    go_wp2_with fail
    refine (turnMatrix_s _ _ _ xs0 _ (Sees.of_own os0) (by omega)).mono ?_
    rintro e w3 ⟨aW, capW, rfl, oW, hg⟩
    have m3 := hg.size
    skip
    replace A0 := A0.kept hg (by simp)
    replace os0 := own_kept os0 hg
    replace G0 := gbt G0 hg
    clear hg
    clear os0
    have rW' : ∀ q, (.slice aW (tV r0 c0 xs0).length capW : Value).ownBlock = some q → w2.heap.size ≤ q ∧ q < w3.heap.size := fun q e => by have := oW.lt q e; (try simp at this); omega
    have rW := Lib.hid rW'
    clear rW'
    replace G0 := gbt G0 (World.grownBy_alloc _ (.cells #[.int .i64 (tR r0 c0 xs0), .int .i64 (tC r0 c0 xs0), .slice aW (tV r0 c0 xs0).length capW] 39) none)
    replace A0 := A0.alloc (.cells #[.int .i64 (tR r0 c0 xs0), .int .i64 (tC r0 c0 xs0), .slice aW (tV r0 c0 xs0).length capW] 39)
    replace oW := oW.alloc (.cells #[.int .i64 (tR r0 c0 xs0), .int .i64 (tC r0 c0 xs0), .slice aW (tV r0 c0 xs0).length capW] 39)
    have BW := Three.new w3 (.int .i64 (tR r0 c0 xs0)) (.int .i64 (tC r0 c0 xs0)) (.slice aW (tV r0 c0 xs0).length capW) 39
    have A0a := A0.c0
    have A0b := A0.c1
    have A0c := A0.c2
    go_wp2_with fail
    refine (toMatrix _ _ _ xs0 _ (hs0.kept G0) (by omega)).mono ?_
    rintro e w4 ⟨vX0, rfl, oX0, hg⟩
    clear A0a A0b A0c
    have m4 := hg.size
    simp at m4
    obtain ⟨aX0, capX0, rfl⟩ := own_slice oX0
    replace A0 := A0.kept hg (by simp)
    replace BW := BW.kept hg (by simp)
    replace oW := own_kept oW hg
    replace G0 := gbt G0 hg
    clear hg
    have rX0' : ∀ q, (.slice aX0 xs0.length capX0 : Value).ownBlock = some q → w3.heap.size + 1 ≤ q ∧ q < w4.heap.size := fun q e => by have := oX0.lt q e; (try simp at this); omega
    have rX0 := Lib.hid rX0'
    clear rX0'
    replace G0 := gbt G0 (World.grownBy_alloc _ (.cells #[.int .i64 r0, .int .i64 c0, .slice aX0 xs0.length capX0] 39) none)
    replace A0 := A0.alloc (.cells #[.int .i64 r0, .int .i64 c0, .slice aX0 xs0.length capX0] 39)
    replace BW := BW.alloc (.cells #[.int .i64 r0, .int .i64 c0, .slice aX0 xs0.length capX0] 39)
    replace oW := oW.alloc (.cells #[.int .i64 r0, .int .i64 c0, .slice aX0 xs0.length capX0] 39)
    replace oX0 := oX0.alloc (.cells #[.int .i64 r0, .int .i64 c0, .slice aX0 xs0.length capX0] 39)
    have BX0 := Three.new w4 (.int .i64 r0) (.int .i64 c0) (.slice aX0 xs0.length capX0) 39
    have BX0a := BX0.c0
    have BX0b := BX0.c1
    have BX0c := BX0.c2
    go_wp2_with fail
    refine (turnMatrix _ _ _ xs0 _ (Sees.of_own oX0)).mono ?_
    rintro e w5 ⟨aG, capG, rfl, oG, hg⟩
    clear BX0a BX0b BX0c
    have m5 := hg.size
    simp at m5
    replace A0 := A0.kept hg (by simp)
    replace BW := BW.kept hg (by simp)
    replace BX0 := BX0.kept hg (by simp)
    replace oW := own_kept oW hg
    replace oX0 := own_kept oX0 hg
    replace G0 := gbt G0 hg
    clear hg
    have rG' : ∀ q, (.slice aG (tV r0 c0 xs0).length capG : Value).ownBlock = some q → w4.heap.size + 1 ≤ q ∧ q < w5.heap.size := fun q e => by have := oG.lt q e; (try simp at this); omega
    have rG := Lib.hid rG'
    clear rG'
    replace G0 := gbt G0 (World.grownBy_alloc _ (.cells #[.int .i64 (tR r0 c0 xs0), .int .i64 (tC r0 c0 xs0), .slice aG (tV r0 c0 xs0).length capG] 39) none)
    replace A0 := A0.alloc (.cells #[.int .i64 (tR r0 c0 xs0), .int .i64 (tC r0 c0 xs0), .slice aG (tV r0 c0 xs0).length capG] 39)
    replace BW := BW.alloc (.cells #[.int .i64 (tR r0 c0 xs0), .int .i64 (tC r0 c0 xs0), .slice aG (tV r0 c0 xs0).length capG] 39)
    replace BX0 := BX0.alloc (.cells #[.int .i64 (tR r0 c0 xs0), .int .i64 (tC r0 c0 xs0), .slice aG (tV r0 c0 xs0).length capG] 39)
    replace oW := oW.alloc (.cells #[.int .i64 (tR r0 c0 xs0), .int .i64 (tC r0 c0 xs0), .slice aG (tV r0 c0 xs0).length capG] 39)
    replace oX0 := oX0.alloc (.cells #[.int .i64 (tR r0 c0 xs0), .int .i64 (tC r0 c0 xs0), .slice aG (tV r0 c0 xs0).length capG] 39)
    replace oG := oG.alloc (.cells #[.int .i64 (tR r0 c0 xs0), .int .i64 (tC r0 c0 xs0), .slice aG (tV r0 c0 xs0).length capG] 39)
    have BG := Three.new w5 (.int .i64 (tR r0 c0 xs0)) (.int .i64 (tC r0 c0 xs0)) (.slice aG (tV r0 c0 xs0).length capG) 39
    have BGa := BG.c0
    have BGb := BG.c1
    have BGc := BG.c2
    have BWa := BW.c0
    have BWb := BW.c1
    have BWc := BW.c2
    go_wp2_with fail
    refine (eqMatrix _ _ _ _ (tV r0 c0 xs0) _ (Sees.of_own oG) (Sees.of_own oW)).mono ?_
    rintro e w6 ⟨rfl, hg⟩
    clear BGa BGb BGc
    clear BWa BWb BWc
    have m6 := hg.size
    simp at m6
    replace A0 := A0.kept hg (by simp)
    replace BW := BW.kept hg (by simp)
    replace BX0 := BX0.kept hg (by simp)
    replace BG := BG.kept hg (by simp)
    replace oW := own_kept oW hg
    replace oX0 := own_kept oX0 hg
    replace oG := own_kept oG hg
    replace G0 := gbt G0 hg
    clear hg
    have hsD := hs0.kept (gbt G0 (gb_drew _ none))
    have hxD := Sees.of_own (own_kept oX0 (gb_drew _ none))
    have A0a := A0.c0
    have A0b := A0.c1
    have A0c := A0.c2
    have BX0a := BX0.c0
    have BX0b := BX0.c1
    have BX0c := BX0.c2
    have y1 := A0.lt
    have y2 := BX0.lt
    go_wp2_with fail
    go_region_held3 (fun w' => w'.cell? ⟨w.heap.size, 0, none⟩ = some (.int .i64 r0) ∧ w'.cell? ⟨w.heap.size, 1, none⟩ = some (.int .i64 c0) ∧ w'.cell? ⟨w.heap.size, 2, none⟩ = some (.slice a0 xs0.length cap0) ∧
        w'.cell? ⟨w4.heap.size, 0, none⟩ = some (.int .i64 r0) ∧ w'.cell? ⟨w4.heap.size, 1, none⟩ = some (.int .i64 c0) ∧ w'.cell? ⟨w4.heap.size, 2, none⟩ = some (.slice aX0 xs0.length capX0))
      (first | go_keep | (go_split_ands; (refine ⟨?_, ?_, ?_, ?_, ?_, ?_⟩ <;> first | exact hg2.cell (by assumption) (by simp) | exact hg1.cell (by assumption) (by simp))))
      (first | (go_at_call 25; refine (toMatrix _ _ _ xs0 _ hsD (by omega)).mono ?_; rintro e u7 ⟨v6, rfl, ho6, hg1⟩; obtain ⟨a6, cap6, rfl⟩ := own_slice ho6; have hx6 := hxD.kept hg1; have hv6 := Sees.of_own ho6; clear hxD hsD) | (go_at_call 27; refine (eqMatrix _ _ _ _ xs0 _ hx6 hv6).mono ?_; rintro e w7 ⟨rfl, hg2⟩))
    clear A0a A0b A0c
    clear BX0a BX0b BX0c
    have hg : w6.grownBy w7 none := gbt (gb_drew _ none) (gbt hg1 hg2)
    clear hg1 hg2 hx6 hv6 y1 y2 ho6
    have m7 := hg.size
    replace A0 := A0.kept hg (by simp)
    replace BW := BW.kept hg (by simp)
    replace BX0 := BX0.kept hg (by simp)
    replace BG := BG.kept hg (by simp)
    replace oW := own_kept oW hg
    replace oX0 := own_kept oX0 hg
    replace oG := own_kept oG hg
    replace G0 := gbt G0 hg
    clear hg
    have k0 : (0 : Int) ≤ 1 ∧ (1 : Int) ≤ 1099511627776 := by constructor <;> omega
    have BX0a := BX0.c0
    have BX0b := BX0.c1
    have BX0c := BX0.c2
    go_wp2_with fail
    refine (markMatrix _ _ _ xs0.length _ _ (1) _ oX0 (by omega) k0).mono ?_
    rintro e w8 ⟨rfl, oX0', hg⟩
    clear BX0a BX0b BX0c
    have m8 := hg.size
    skip
    replace A0 := A0.kept hg (by intro e; have := rX0.out _ e.symm; omega)
    replace BW := BW.kept hg (by intro e; have := rX0.out _ e.symm; omega)
    replace BX0 := BX0.kept hg (by intro e; have := rX0.out _ e.symm; omega)
    replace BG := BG.kept hg (by intro e; have := rX0.out _ e.symm; omega)
    replace oW := oW.kept hg (ne_of rW.out rX0.out (by intro q h1 h2; omega))
    replace oG := oG.kept hg (ne_of rG.out rX0.out (by intro q h1 h2; omega))
    replace G0 := gb_none G0 hg (fun q e => by have := rX0.out _ e; omega)
    clear hg
    clear oX0 oX0'
    clear BX0 k0
    have kk : ¬ 1 + (xs0.length : Int) < 0 := by omega
    have BGa := BG.c0
    have BGb := BG.c1
    have BGc := BG.c2
    have BWa := BW.c0
    have BWb := BW.c1
    have BWc := BW.c2
    go_wp2_with fail
    refine (eqMatrix _ _ _ _ (tV r0 c0 xs0) _ (Sees.of_own oG) (Sees.of_own oW)).mono ?_
    rintro e w9 ⟨rfl, hg⟩
    clear BGa BGb BGc
    clear BWa BWb BWc
    have m9 := hg.size
    skip
    replace A0 := A0.kept hg (by simp)
    replace BW := BW.kept hg (by simp)
    replace BG := BG.kept hg (by simp)
    replace oW := own_kept oW hg
    replace oG := own_kept oG hg
    replace G0 := gbt G0 hg
    clear hg
    have hvl := tV_len r0 c0 xs0
    clear kk
    have BGa := BG.c0
    have BGb := BG.c1
    have BGc := BG.c2
    go_wp2_with fail
    refine (markMatrix _ _ _ (tV r0 c0 xs0).length _ _ 1 _ oG (by omega) (by decide)).mono ?_
    rintro e w10 ⟨rfl, oG', hg⟩
    clear BGa BGb BGc
    have m10 := hg.size
    skip
    replace A0 := A0.kept hg (by intro e; have := rG.out _ e.symm; omega)
    replace BW := BW.kept hg (by intro e; have := rG.out _ e.symm; omega)
    replace BG := BG.kept hg (by intro e; have := rG.out _ e.symm; omega)
    replace oW := oW.kept hg (ne_of rW.out rG.out (by intro q h1 h2; omega))
    replace G0 := gb_none G0 hg (fun q e => by have := rG.out _ e; omega)
    clear hg
    clear oG
    have kq : ¬ (1 : Int) + ((tV r0 c0 xs0).length : Int) < 0 := by omega
    have kn : ((1 : Int) + ((tV r0 c0 xs0).length : Int) != 1 + ((tV r0 c0 xs0).length : Int)) = false := by simp
    have BGa := BG.c0
    have BGb := BG.c1
    have BGc := BG.c2
    go_wp2_with fail
    refine (heldMatrix _ _ (tV r0 c0 xs0).length _ 1 _ (Sees.of_own oG') (by omega) (by decide)).mono ?_
    rintro e w11 ⟨rfl, hg⟩
    clear BGa BGb BGc
    have m11 := hg.size
    skip
    replace A0 := A0.kept hg (by simp)
    replace BW := BW.kept hg (by simp)
    replace BG := BG.kept hg (by simp)
    replace oW := own_kept oW hg
    replace oG' := own_kept oG' hg
    replace G0 := gbt G0 hg
    clear hg
    have A0a := A0.c0
    have A0b := A0.c1
    have A0c := A0.c2
    go_wp2_with fail
    refine (toMatrix _ _ _ xs0 _ (hs0.kept G0) (by omega)).mono ?_
    rintro e w12 ⟨vh0, rfl, oh0, hg⟩
    clear A0a A0b A0c
    have m12 := hg.size
    skip
    obtain ⟨ah0, caph0, rfl⟩ := own_slice oh0
    replace A0 := A0.kept hg (by simp)
    replace BW := BW.kept hg (by simp)
    replace BG := BG.kept hg (by simp)
    replace oW := own_kept oW hg
    replace oG' := own_kept oG' hg
    replace G0 := gbt G0 hg
    clear hg
    go_wp2_with fail
    refine (turnMatrix _ _ _ xs0 _ (Sees.of_own oh0)).mono ?_
    rintro e w13 ⟨aH, capH, rfl, oH, hg⟩
    have m13 := hg.size
    skip
    replace A0 := A0.kept hg (by simp)
    replace BW := BW.kept hg (by simp)
    replace BG := BG.kept hg (by simp)
    replace oW := own_kept oW hg
    replace oG' := own_kept oG' hg
    replace oh0 := own_kept oh0 hg
    replace G0 := gbt G0 hg
    clear hg
    clear oh0
    replace G0 := gbt G0 (World.grownBy_alloc _ (.cells #[.int .i64 (tR r0 c0 xs0), .int .i64 (tC r0 c0 xs0), .slice aH (tV r0 c0 xs0).length capH] 39) none)
    replace A0 := A0.alloc (.cells #[.int .i64 (tR r0 c0 xs0), .int .i64 (tC r0 c0 xs0), .slice aH (tV r0 c0 xs0).length capH] 39)
    replace BW := BW.alloc (.cells #[.int .i64 (tR r0 c0 xs0), .int .i64 (tC r0 c0 xs0), .slice aH (tV r0 c0 xs0).length capH] 39)
    replace BG := BG.alloc (.cells #[.int .i64 (tR r0 c0 xs0), .int .i64 (tC r0 c0 xs0), .slice aH (tV r0 c0 xs0).length capH] 39)
    replace oW := oW.alloc (.cells #[.int .i64 (tR r0 c0 xs0), .int .i64 (tC r0 c0 xs0), .slice aH (tV r0 c0 xs0).length capH] 39)
    replace oG' := oG'.alloc (.cells #[.int .i64 (tR r0 c0 xs0), .int .i64 (tC r0 c0 xs0), .slice aH (tV r0 c0 xs0).length capH] 39)
    replace oH := oH.alloc (.cells #[.int .i64 (tR r0 c0 xs0), .int .i64 (tC r0 c0 xs0), .slice aH (tV r0 c0 xs0).length capH] 39)
    have BH := Three.new w13 (.int .i64 (tR r0 c0 xs0)) (.int .i64 (tC r0 c0 xs0)) (.slice aH (tV r0 c0 xs0).length capH) 39
    have BHa := BH.c0
    have BHb := BH.c1
    have BHc := BH.c2
    have BWa := BW.c0
    have BWb := BW.c1
    have BWc := BW.c2
    go_wp2_with fail
    refine (eqMatrix _ _ _ _ (tV r0 c0 xs0) _ (Sees.of_own oH) (Sees.of_own oW)).mono ?_
    rintro e w14 ⟨rfl, hg⟩
    clear BHa BHb BHc
    clear BWa BWb BWc
    have m14 := hg.size
    simp at m14
    replace A0 := A0.kept hg (by simp)
    replace BW := BW.kept hg (by simp)
    replace BG := BG.kept hg (by simp)
    replace BH := BH.kept hg (by simp)
    replace oW := own_kept oW hg
    replace oG' := own_kept oG' hg
    replace oH := own_kept oH hg
    replace G0 := gbt G0 hg
    clear hg
    have BGa := BG.c0
    have BGb := BG.c1
    have BGc := BG.c2
    go_wp2_with fail
    refine (heldMatrix _ _ (tV r0 c0 xs0).length _ 1 _ (Sees.of_own oG') (by omega) (by decide)).mono ?_
    rintro e w15 ⟨rfl, hg⟩
    clear BGa BGb BGc
    have m15 := hg.size
    skip
    replace A0 := A0.kept hg (by simp)
    replace BW := BW.kept hg (by simp)
    replace BG := BG.kept hg (by simp)
    replace BH := BH.kept hg (by simp)
    replace oW := own_kept oW hg
    replace oG' := own_kept oG' hg
    replace oH := own_kept oH hg
    replace G0 := gbt G0 hg
    clear hg
    go_wp2_with fail
    go_ret
    exact ⟨rfl, gb_below G0⟩
  · skip
    go_enter Try.func14, Try.ntmps14
    have A0a := A0.c0
    have A0b := A0.c1
    have A0c := A0.c2
    go_wp2_with fail
    refine (szMatrix _ _ _ xs0 (1048576) (-1) _ (hs0.kept G0) (by constructor <;> omega) (szL_big (by omega))).mono ?_
    rintro e w1 ⟨rfl, hg⟩
    clear A0a A0b A0c
    have m1 := hg.size
    simp at m1
    replace A0 := A0.kept hg (by simp)
    replace G0 := gbt G0 hg
    clear hg
    go_wp2_with fail
    go_ret
    exact ⟨rfl, gb_below G0⟩
end Go.Proofs.Ythcochdkclmejaa.fnExactTurnMatrix
