/- The law FnExactSplitMatrix returns true for all arguments: the program's SplitMatrix and the reference's return the same, in memory of its own, and the argument stays as it was. Conditions: none. The walk. -/
import Derived.Test.YtfnajbifdilfmaaISplit
import Derived.WalkKit
import Derived.WalkLawsBesides
import Derived.WalkSpells
import Derived.Deep.RegionHeld3
namespace Go.Proofs.Ytfnajbifdilfmaa.fnExactSplitMatrix
open Go Go.RowKit
set_option linter.unusedVariables false

set_option maxHeartbeats 3200000 in
theorem walk (r0 c0 : Int) (a0 : Option Addr) (len0 cap0 : Nat) (z0 : List Int) (a1 : Int) (w : World) (wr0 : (Lit.int .i64 r0).wf = true) (wc0 : (Lit.int .i64 c0).wf = true) (w0 : IsRow .i64 w a0 len0 cap0 z0) (w1 : (Lit.int .i64 a1).wf = true) :
    Calls Try.prog 13 #[.agg #[.int .i64 r0, .int .i64 c0, .slice a0 len0 cap0], .int .i64 a1] w fun e w' => e = .returned (.bool true) ∧ Below w.heap.size w w' := by
  obtain ⟨xs0, hx0, hxl⟩ := w0.sees
  subst hxl
  have G0 : w.grownBy (w.alloc (.cells #[.int .i64 r0, .int .i64 c0, .slice a0 xs0.length cap0] 24)) none := World.grownBy_alloc _ _ _
  have A0 := Three.new w (.int .i64 r0) (.int .i64 c0) (.slice a0 xs0.length cap0) 24
  have hl1 := sF_len r0 c0 xs0 a1
  have hl2 := sS_len r0 c0 xs0 a1
  by_cases hn : xs0.length ≤ 1048576
  · skip
    have ok : ¬ (1048576 - (xs0.length : Int)) < 0 := by omega
    have C1 : ∀ u v, Sees u v xs0 → Calls Try.prog 43 #[.agg #[.int .i64 r0, .int .i64 c0, v], .int .i64 a1] u _ := fun u v k => splitMatrix r0 c0 a1 v xs0 u k
    have C2 : ∀ u v, Sees u v xs0 → Calls Try.prog 44 #[.agg #[.int .i64 r0, .int .i64 c0, v], .int .i64 a1] u _ := fun u v k => splitMatrix_s r0 c0 a1 v xs0 u k hn
    generalize sF r0 c0 xs0 a1 = l1 at *
    generalize sS r0 c0 xs0 a1 = l2 at *
    generalize sZ r0 c0 xs0 a1 = z at *
    generalize pN (sq r0 c0 xs0 a1) r0 = R0 at *
    generalize pN (sq r0 c0 xs0 a1) c0 = C0 at *
    replace C1 := Lib.hid C1
    replace C2 := Lib.hid C2
    have hne : (z != z) = false := by simp
    have kq : ¬ (1 : Int) + (l1.length : Int) + (l2.length : Int) < 0 := by omega
    have kn : ((1 : Int) + (l1.length : Int) + (l2.length : Int) != 1 + (l1.length : Int) + (l2.length : Int)) = false := by simp
    go_enter Try.func13, Try.ntmps13
    have A0_0 := A0.c0
    have A0_1 := A0.c1
    have A0_2 := A0.c2
    go_wp2_with fail
    refine (szMatrix _ _ _ xs0 (1048576) (1048576 - (xs0.length : Int)) _ (hx0.kept G0) (by constructor <;> omega) (szL_ok (by omega))).mono ?_
    rintro e w1 ⟨rfl, hg⟩
    clear A0_0 A0_1 A0_2
    have m1 := hg.size
    simp at m1
    replace A0 := A0.kept hg (by simp)
    replace G0 := gbt G0 hg
    clear hg
    have A0_0 := A0.c0
    have A0_1 := A0.c1
    have A0_2 := A0.c2
    go_wp2_with fail
    refine (toMatrix _ _ _ xs0 _ (hx0.kept G0) (by omega)).mono ?_
    rintro e w2 ⟨vs, rfl, os, hg⟩
    clear A0_0 A0_1 A0_2
    have m2 := hg.size
    skip
    obtain ⟨aS, cS, rfl⟩ := own_slice os
    replace A0 := A0.kept hg (by simp)
    replace G0 := gbt G0 hg
    clear hg
    go_wp2_with fail
    refine (C2.out _ _ (Sees.of_own os)).mono ?_
    rintro e w3 ⟨aW, capW, bW, dapW, rfl, oW, pW, hg⟩
    have m3 := hg.size
    skip
    replace A0 := A0.kept hg (by simp)
    replace os := own_kept os hg
    replace G0 := gbt G0 hg
    clear hg
    clear os
    have rW' : ∀ q, (.slice aW l1.length capW : Value).ownBlock = some q → w2.heap.size ≤ q ∧ q < w3.heap.size := fun q e => by have := oW.lt q e; (try simp at this); omega
    have rW := Lib.hid rW'
    clear rW'
    have sW' : ∀ q, (.slice bW l2.length dapW : Value).ownBlock = some q → w2.heap.size ≤ q ∧ q < w3.heap.size := fun q e => by have := pW.lt q e; (try simp at this); omega
    have sW := Lib.hid sW'
    clear sW'
    replace G0 := gbt G0 (World.grownBy_alloc _ (.cells #[.int .i64 R0, .int .i64 C0, .slice aW l1.length capW, .int .i64 R0, .int .i64 C0, .slice bW l2.length dapW] 40) none)
    replace A0 := A0.alloc (.cells #[.int .i64 R0, .int .i64 C0, .slice aW l1.length capW, .int .i64 R0, .int .i64 C0, .slice bW l2.length dapW] 40)
    replace oW := oW.alloc (.cells #[.int .i64 R0, .int .i64 C0, .slice aW l1.length capW, .int .i64 R0, .int .i64 C0, .slice bW l2.length dapW] 40)
    replace pW := pW.alloc (.cells #[.int .i64 R0, .int .i64 C0, .slice aW l1.length capW, .int .i64 R0, .int .i64 C0, .slice bW l2.length dapW] 40)
    have BW := Six.new w3 (.int .i64 R0) (.int .i64 C0) (.slice aW l1.length capW) (.int .i64 R0) (.int .i64 C0) (.slice bW l2.length dapW) 40
    have A0_0 := A0.c0
    have A0_1 := A0.c1
    have A0_2 := A0.c2
    go_wp2_with fail
    refine (toMatrix _ _ _ xs0 _ (hx0.kept G0) (by omega)).mono ?_
    rintro e w4 ⟨vX, rfl, oX, hg⟩
    clear A0_0 A0_1 A0_2
    have m4 := hg.size
    simp at m4
    obtain ⟨aX, capX, rfl⟩ := own_slice oX
    replace A0 := A0.kept hg (by simp)
    replace BW := BW.kept hg (by simp)
    replace oW := own_kept oW hg
    replace pW := own_kept pW hg
    replace G0 := gbt G0 hg
    clear hg
    have rX' : ∀ q, (.slice aX xs0.length capX : Value).ownBlock = some q → w3.heap.size + 1 ≤ q ∧ q < w4.heap.size := fun q e => by have := oX.lt q e; (try simp at this); omega
    have rX := Lib.hid rX'
    clear rX'
    replace G0 := gbt G0 (World.grownBy_alloc _ (.cells #[.int .i64 r0, .int .i64 c0, .slice aX xs0.length capX] 26) none)
    replace A0 := A0.alloc (.cells #[.int .i64 r0, .int .i64 c0, .slice aX xs0.length capX] 26)
    replace BW := BW.alloc (.cells #[.int .i64 r0, .int .i64 c0, .slice aX xs0.length capX] 26)
    replace oW := oW.alloc (.cells #[.int .i64 r0, .int .i64 c0, .slice aX xs0.length capX] 26)
    replace pW := pW.alloc (.cells #[.int .i64 r0, .int .i64 c0, .slice aX xs0.length capX] 26)
    replace oX := oX.alloc (.cells #[.int .i64 r0, .int .i64 c0, .slice aX xs0.length capX] 26)
    have BX := Three.new w4 (.int .i64 r0) (.int .i64 c0) (.slice aX xs0.length capX) 26
    have BX_0 := BX.c0
    have BX_1 := BX.c1
    have BX_2 := BX.c2
    go_wp2_with fail
    refine (C1.out _ _ (Sees.of_own oX)).mono ?_
    rintro e w5 ⟨aG, capG, bG, dapG, kG, rfl, oG, pG, hkG, hjG, hg⟩
    clear BX_0 BX_1 BX_2
    have m5 := hg.size
    simp at m5
    replace A0 := A0.kept hg (by simp)
    replace BW := BW.kept hg (by simp)
    replace BX := BX.kept hg (by simp)
    replace oW := own_kept oW hg
    replace pW := own_kept pW hg
    replace oX := own_kept oX hg
    replace G0 := gbt G0 hg
    clear hg
    simp at hkG
    have rG' : ∀ q, (.slice aG l1.length capG : Value).ownBlock = some q → w4.heap.size + 1 ≤ q ∧ q < w5.heap.size := fun q e => by have := oG.lt q e; (try simp at this); omega
    have rG := Lib.hid rG'
    clear rG'
    have sG' : ∀ q, (.slice bG l2.length dapG : Value).ownBlock = some q → kG ≤ q ∧ q < w5.heap.size := fun q e => by have := pG.lt q e; (try simp at this); omega
    have sG := Lib.hid sG'
    clear sG'
    replace hjG := Lib.hid hjG
    replace G0 := gbt G0 (World.grownBy_alloc _ (.cells #[.int .i64 R0, .int .i64 C0, .slice aG l1.length capG, .int .i64 R0, .int .i64 C0, .slice bG l2.length dapG] 40) none)
    replace A0 := A0.alloc (.cells #[.int .i64 R0, .int .i64 C0, .slice aG l1.length capG, .int .i64 R0, .int .i64 C0, .slice bG l2.length dapG] 40)
    replace BW := BW.alloc (.cells #[.int .i64 R0, .int .i64 C0, .slice aG l1.length capG, .int .i64 R0, .int .i64 C0, .slice bG l2.length dapG] 40)
    replace BX := BX.alloc (.cells #[.int .i64 R0, .int .i64 C0, .slice aG l1.length capG, .int .i64 R0, .int .i64 C0, .slice bG l2.length dapG] 40)
    replace oW := oW.alloc (.cells #[.int .i64 R0, .int .i64 C0, .slice aG l1.length capG, .int .i64 R0, .int .i64 C0, .slice bG l2.length dapG] 40)
    replace pW := pW.alloc (.cells #[.int .i64 R0, .int .i64 C0, .slice aG l1.length capG, .int .i64 R0, .int .i64 C0, .slice bG l2.length dapG] 40)
    replace oX := oX.alloc (.cells #[.int .i64 R0, .int .i64 C0, .slice aG l1.length capG, .int .i64 R0, .int .i64 C0, .slice bG l2.length dapG] 40)
    replace oG := oG.alloc (.cells #[.int .i64 R0, .int .i64 C0, .slice aG l1.length capG, .int .i64 R0, .int .i64 C0, .slice bG l2.length dapG] 40)
    replace pG := pG.alloc (.cells #[.int .i64 R0, .int .i64 C0, .slice aG l1.length capG, .int .i64 R0, .int .i64 C0, .slice bG l2.length dapG] 40)
    have BG := Six.new w5 (.int .i64 R0) (.int .i64 C0) (.slice aG l1.length capG) (.int .i64 R0) (.int .i64 C0) (.slice bG l2.length dapG) 40
    have BG_0 := BG.c0
    have BG_1 := BG.c1
    have BG_2 := BG.c2
    have BG_3 := BG.c3
    have BG_4 := BG.c4
    have BG_5 := BG.c5
    have BW_0 := BW.c0
    have BW_1 := BW.c1
    have BW_2 := BW.c2
    have BW_3 := BW.c3
    have BW_4 := BW.c4
    have BW_5 := BW.c5
    go_wp2_with fail
    refine (eqSharedMatrix _ _ _ _ _ _ _ _ l1 l2 _ (Sees.of_own oG) (Sees.of_own pG) (Sees.of_own oW) (Sees.of_own pW)).mono ?_
    rintro e w6 ⟨rfl, hg⟩
    clear BG_0 BG_1 BG_2 BG_3 BG_4 BG_5
    clear BW_0 BW_1 BW_2 BW_3 BW_4 BW_5
    have m6 := hg.size
    simp at m6
    replace A0 := A0.kept hg (by simp)
    replace BW := BW.kept hg (by simp)
    replace BX := BX.kept hg (by simp)
    replace BG := BG.kept hg (by simp)
    replace oW := own_kept oW hg
    replace pW := own_kept pW hg
    replace oX := own_kept oX hg
    replace oG := own_kept oG hg
    replace pG := own_kept pG hg
    replace G0 := gbt G0 hg
    clear hg
    have HM : Hid (∀ w', w6.grownBy w' none → w'.cell? ⟨w.heap.size, 0, none⟩ = some (.int .i64 r0) ∧ w'.cell? ⟨w.heap.size, 1, none⟩ = some (.int .i64 c0) ∧ w'.cell? ⟨w.heap.size, 2, none⟩ = some (.slice a0 xs0.length cap0) ∧ w'.cell? ⟨w4.heap.size, 0, none⟩ = some (.int .i64 r0) ∧ w'.cell? ⟨w4.heap.size, 1, none⟩ = some (.int .i64 c0) ∧ w'.cell? ⟨w4.heap.size, 2, none⟩ = some (.slice aX xs0.length capX)) := fun w' h => ⟨(A0.kept h (by simp)).c0, (A0.kept h (by simp)).c1, (A0.kept h (by simp)).c2, (BX.kept h (by simp)).c0, (BX.kept h (by simp)).c1, (BX.kept h (by simp)).c2⟩
    have hxD := hx0.kept (gbt G0 (gb_drew w6 none))
    have s5 := (Sees.of_own oX).kept (gb_drew w6 none)
    have K0 := gb_drew w6 none
    have A0_0 := A0.c0
    have A0_1 := A0.c1
    have A0_2 := A0.c2
    have BX_0 := BX.c0
    have BX_1 := BX.c1
    have BX_2 := BX.c2
    go_wp2_with fail
    clear A0_0 A0_1 A0_2
    clear BX_0 BX_1 BX_2
    go_region_held3 (fun w' => w'.cell? ⟨w.heap.size, 0, none⟩ = some (.int .i64 r0) ∧ w'.cell? ⟨w.heap.size, 1, none⟩ = some (.int .i64 c0) ∧ w'.cell? ⟨w.heap.size, 2, none⟩ = some (.slice a0 xs0.length cap0) ∧ w'.cell? ⟨w4.heap.size, 0, none⟩ = some (.int .i64 r0) ∧ w'.cell? ⟨w4.heap.size, 1, none⟩ = some (.int .i64 c0) ∧ w'.cell? ⟨w4.heap.size, 2, none⟩ = some (.slice aX xs0.length capX))
      (exact HM.out _ (by with_reducible assumption))
      (first
        | (go_at_call 16; have _t := K0; refine (toMatrix _ _ _ xs0 _ hxD (by omega)).mono ?_; rintro e u6 ⟨v6, rfl, o6, hg⟩; obtain ⟨a6, k6, rfl⟩ := own_slice o6; have K1 := gbt K0 hg; replace s5 := s5.kept hg; have s6 := Sees.of_own o6; clear K0 hg)
        | (go_at_call 18; have _t := K1; refine (eqMatrix _ _ _ _ xs0 _ s5 s6).mono ?_; rintro e w7 ⟨rfl, hg⟩; have K2 := gbt K1 hg; clear K1 hg))
    clear HM hxD s5 s6 o6
    have m7 := K2.size
    replace A0 := A0.kept K2 (by simp)
    replace BW := BW.kept K2 (by simp)
    replace BX := BX.kept K2 (by simp)
    replace BG := BG.kept K2 (by simp)
    replace oW := own_kept oW K2
    replace pW := own_kept pW K2
    replace oX := own_kept oX K2
    replace oG := own_kept oG K2
    replace pG := own_kept pG K2
    replace G0 := gbt G0 K2
    clear K2
    have BX_0 := BX.c0
    have BX_1 := BX.c1
    have BX_2 := BX.c2
    go_wp2_with fail
    refine (markMatrix _ _ _ xs0.length _ _ (1) _ oX (by omega) (by decide)).mono ?_
    rintro e w8 ⟨rfl, oX', hg⟩
    clear BX_0 BX_1 BX_2
    have m8 := hg.size
    skip
    replace A0 := A0.kept hg (by intro e; have := rX.out _ e.symm; omega)
    replace BW := BW.kept hg (by intro e; have := rX.out _ e.symm; omega)
    replace BX := BX.kept hg (by intro e; have := rX.out _ e.symm; omega)
    replace BG := BG.kept hg (by intro e; have := rX.out _ e.symm; omega)
    replace oW := oW.kept hg (ne_of rW.out rX.out (by intro q h1 h2; omega))
    replace pW := pW.kept hg (ne_of sW.out rX.out (by intro q h1 h2; omega))
    replace oG := oG.kept hg (ne_of rG.out rX.out (by intro q h1 h2; omega))
    replace pG := pG.kept hg (ne_of sG.out rX.out (by intro q h1 h2; omega))
    replace G0 := gb_none G0 hg (fun q e => by have := rX.out _ e; omega)
    clear hg
    clear oX oX' BX
    have kk : ¬ 1 + (xs0.length : Int) < 0 := by omega
    have BG_0 := BG.c0
    have BG_1 := BG.c1
    have BG_2 := BG.c2
    have BG_3 := BG.c3
    have BG_4 := BG.c4
    have BG_5 := BG.c5
    have BW_0 := BW.c0
    have BW_1 := BW.c1
    have BW_2 := BW.c2
    have BW_3 := BW.c3
    have BW_4 := BW.c4
    have BW_5 := BW.c5
    go_wp2_with fail
    refine (eqSharedMatrix _ _ _ _ _ _ _ _ l1 l2 _ (Sees.of_own oG) (Sees.of_own pG) (Sees.of_own oW) (Sees.of_own pW)).mono ?_
    rintro e w9 ⟨rfl, hg⟩
    clear BG_0 BG_1 BG_2 BG_3 BG_4 BG_5
    clear BW_0 BW_1 BW_2 BW_3 BW_4 BW_5
    have m9 := hg.size
    skip
    replace A0 := A0.kept hg (by simp)
    replace BW := BW.kept hg (by simp)
    replace BG := BG.kept hg (by simp)
    replace oW := own_kept oW hg
    replace pW := own_kept pW hg
    replace oG := own_kept oG hg
    replace pG := own_kept pG hg
    replace G0 := gbt G0 hg
    clear hg
    clear kk
    have BG_0 := BG.c0
    have BG_1 := BG.c1
    have BG_2 := BG.c2
    have BG_3 := BG.c3
    have BG_4 := BG.c4
    have BG_5 := BG.c5
    go_wp2_with fail
    have ne1 := ne_of (Q := fun q => q < kG) sG.out hjG.out (by intro q h1 h2; omega)
    have ne2 := ne_of (P := fun q => q < kG) hjG.out sG.out (by intro q h1 h2; omega)
    refine (markSharedMatrix2 _ _ _ _ _ _ _ _ l1 l2 l1.length l2.length 1 _ oG pG ne1 ne2 (by omega) (by omega) (by decide)).mono ?_
    rintro e w10 ⟨rfl, oG', pG', wm, hgm, hg⟩
    clear BG_0 BG_1 BG_2 BG_3 BG_4 BG_5
    have mm10 := hgm.size
    have m10 := hg.size
    clear oG pG hjG ne1 ne2
    replace A0 := A0.kept hgm (by intro e; have := rG.out _ e.symm; omega)
    replace BW := BW.kept hgm (by intro e; have := rG.out _ e.symm; omega)
    replace BG := BG.kept hgm (by intro e; have := rG.out _ e.symm; omega)
    replace oW := oW.kept hgm (ne_of rW.out rG.out (by intro q h1 h2; omega))
    replace pW := pW.kept hgm (ne_of sW.out rG.out (by intro q h1 h2; omega))
    replace G0 := gb_none G0 hgm (fun q e => by have := rG.out _ e; omega)
    replace A0 := A0.kept hg (by intro e; have := sG.out _ e.symm; omega)
    replace BW := BW.kept hg (by intro e; have := sG.out _ e.symm; omega)
    replace BG := BG.kept hg (by intro e; have := sG.out _ e.symm; omega)
    replace oW := oW.kept hg (ne_of rW.out sG.out (by intro q h1 h2; omega))
    replace pW := pW.kept hg (ne_of sW.out sG.out (by intro q h1 h2; omega))
    replace G0 := gb_none G0 hg (fun q e => by have := sG.out _ e; omega)
    clear hgm hg
    have BG_0 := BG.c0
    have BG_1 := BG.c1
    have BG_2 := BG.c2
    have BG_3 := BG.c3
    have BG_4 := BG.c4
    have BG_5 := BG.c5
    go_wp2_with fail
    refine (heldSharedMatrix _ _ _ _ l1.length l2.length _ _ 1 _ (Sees.of_own oG') (Sees.of_own pG') (by omega) (by omega) (by decide)).mono ?_
    rintro e w11 ⟨rfl, hg⟩
    clear BG_0 BG_1 BG_2 BG_3 BG_4 BG_5
    have m11 := hg.size
    skip
    replace A0 := A0.kept hg (by simp)
    replace BW := BW.kept hg (by simp)
    replace BG := BG.kept hg (by simp)
    replace oW := own_kept oW hg
    replace pW := own_kept pW hg
    replace oG' := own_kept oG' hg
    replace pG' := own_kept pG' hg
    replace G0 := gbt G0 hg
    clear hg
    have A0_0 := A0.c0
    have A0_1 := A0.c1
    have A0_2 := A0.c2
    go_wp2_with fail
    refine (toMatrix _ _ _ xs0 _ (hx0.kept G0) (by omega)).mono ?_
    rintro e w12 ⟨vh, rfl, oh, hg⟩
    clear A0_0 A0_1 A0_2
    have m12 := hg.size
    skip
    obtain ⟨ah, ch, rfl⟩ := own_slice oh
    replace A0 := A0.kept hg (by simp)
    replace BW := BW.kept hg (by simp)
    replace BG := BG.kept hg (by simp)
    replace oW := own_kept oW hg
    replace pW := own_kept pW hg
    replace oG' := own_kept oG' hg
    replace pG' := own_kept pG' hg
    replace G0 := gbt G0 hg
    clear hg
    go_wp2_with fail
    refine (C1.out _ _ (Sees.of_own oh)).mono ?_
    rintro e w13 ⟨aH, capH, bH, dapH, kH, rfl, oH, pH, _, _, hg⟩
    have m13 := hg.size
    skip
    replace A0 := A0.kept hg (by simp)
    replace BW := BW.kept hg (by simp)
    replace BG := BG.kept hg (by simp)
    replace oW := own_kept oW hg
    replace pW := own_kept pW hg
    replace oG' := own_kept oG' hg
    replace pG' := own_kept pG' hg
    replace oh := own_kept oh hg
    replace G0 := gbt G0 hg
    clear hg
    clear oh
    replace G0 := gbt G0 (World.grownBy_alloc _ (.cells #[.int .i64 R0, .int .i64 C0, .slice aH l1.length capH, .int .i64 R0, .int .i64 C0, .slice bH l2.length dapH] 40) none)
    replace A0 := A0.alloc (.cells #[.int .i64 R0, .int .i64 C0, .slice aH l1.length capH, .int .i64 R0, .int .i64 C0, .slice bH l2.length dapH] 40)
    replace BW := BW.alloc (.cells #[.int .i64 R0, .int .i64 C0, .slice aH l1.length capH, .int .i64 R0, .int .i64 C0, .slice bH l2.length dapH] 40)
    replace BG := BG.alloc (.cells #[.int .i64 R0, .int .i64 C0, .slice aH l1.length capH, .int .i64 R0, .int .i64 C0, .slice bH l2.length dapH] 40)
    replace oW := oW.alloc (.cells #[.int .i64 R0, .int .i64 C0, .slice aH l1.length capH, .int .i64 R0, .int .i64 C0, .slice bH l2.length dapH] 40)
    replace pW := pW.alloc (.cells #[.int .i64 R0, .int .i64 C0, .slice aH l1.length capH, .int .i64 R0, .int .i64 C0, .slice bH l2.length dapH] 40)
    replace oG' := oG'.alloc (.cells #[.int .i64 R0, .int .i64 C0, .slice aH l1.length capH, .int .i64 R0, .int .i64 C0, .slice bH l2.length dapH] 40)
    replace pG' := pG'.alloc (.cells #[.int .i64 R0, .int .i64 C0, .slice aH l1.length capH, .int .i64 R0, .int .i64 C0, .slice bH l2.length dapH] 40)
    replace oH := oH.alloc (.cells #[.int .i64 R0, .int .i64 C0, .slice aH l1.length capH, .int .i64 R0, .int .i64 C0, .slice bH l2.length dapH] 40)
    replace pH := pH.alloc (.cells #[.int .i64 R0, .int .i64 C0, .slice aH l1.length capH, .int .i64 R0, .int .i64 C0, .slice bH l2.length dapH] 40)
    have BH := Six.new w13 (.int .i64 R0) (.int .i64 C0) (.slice aH l1.length capH) (.int .i64 R0) (.int .i64 C0) (.slice bH l2.length dapH) 40
    have BH_0 := BH.c0
    have BH_1 := BH.c1
    have BH_2 := BH.c2
    have BH_3 := BH.c3
    have BH_4 := BH.c4
    have BH_5 := BH.c5
    have BW_0 := BW.c0
    have BW_1 := BW.c1
    have BW_2 := BW.c2
    have BW_3 := BW.c3
    have BW_4 := BW.c4
    have BW_5 := BW.c5
    go_wp2_with fail
    refine (eqSharedMatrix _ _ _ _ _ _ _ _ l1 l2 _ (Sees.of_own oH) (Sees.of_own pH) (Sees.of_own oW) (Sees.of_own pW)).mono ?_
    rintro e w14 ⟨rfl, hg⟩
    clear BH_0 BH_1 BH_2 BH_3 BH_4 BH_5
    clear BW_0 BW_1 BW_2 BW_3 BW_4 BW_5
    have m14 := hg.size
    simp at m14
    replace A0 := A0.kept hg (by simp)
    replace BW := BW.kept hg (by simp)
    replace BG := BG.kept hg (by simp)
    replace BH := BH.kept hg (by simp)
    replace oW := own_kept oW hg
    replace pW := own_kept pW hg
    replace oG' := own_kept oG' hg
    replace pG' := own_kept pG' hg
    replace oH := own_kept oH hg
    replace pH := own_kept pH hg
    replace G0 := gbt G0 hg
    clear hg
    have BG_0 := BG.c0
    have BG_1 := BG.c1
    have BG_2 := BG.c2
    have BG_3 := BG.c3
    have BG_4 := BG.c4
    have BG_5 := BG.c5
    go_wp2_with fail
    refine (heldSharedMatrix _ _ _ _ l1.length l2.length _ _ 1 _ (Sees.of_own oG') (Sees.of_own pG') (by omega) (by omega) (by decide)).mono ?_
    rintro e w15 ⟨rfl, hg⟩
    clear BG_0 BG_1 BG_2 BG_3 BG_4 BG_5
    have m15 := hg.size
    skip
    replace A0 := A0.kept hg (by simp)
    replace BW := BW.kept hg (by simp)
    replace BG := BG.kept hg (by simp)
    replace BH := BH.kept hg (by simp)
    replace oW := own_kept oW hg
    replace pW := own_kept pW hg
    replace oG' := own_kept oG' hg
    replace pG' := own_kept pG' hg
    replace oH := own_kept oH hg
    replace pH := own_kept pH hg
    replace G0 := gbt G0 hg
    clear hg
    go_wp2_with fail
    go_ret
    exact ⟨rfl, gb_below G0⟩
  · skip
    go_enter Try.func13, Try.ntmps13
    have A0_0 := A0.c0
    have A0_1 := A0.c1
    have A0_2 := A0.c2
    go_wp2_with fail
    refine (szMatrix _ _ _ xs0 (1048576) (-1) _ (hx0.kept G0) (by constructor <;> omega) (szL_big (by omega))).mono ?_
    rintro e w1 ⟨rfl, hg⟩
    clear A0_0 A0_1 A0_2
    have m1 := hg.size
    simp at m1
    replace A0 := A0.kept hg (by simp)
    replace G0 := gbt G0 hg
    clear hg
    go_wp2_with fail
    go_ret
    exact ⟨rfl, gb_below G0⟩
end Go.Proofs.Ytfnajbifdilfmaa.fnExactSplitMatrix
