/- The law FnExactJoinMatrix returns true for every shared matrix: the program's JoinMatrix and the reference's return the same, in memory of its own, and the argument stays as it was. Conditions: none. The walk. -/
import Derived.Test.YtfnajbifdilfmaaJoin
import Derived.WalkKit
import Derived.WalkLawsBesides
import Derived.WalkSpells
import Derived.Deep.RegionHeld3
namespace Go.Proofs.Ytfnajbifdilfmaa.fnExactJoinMatrix
open Go Go.RowKit
set_option linter.unusedVariables false

set_option maxHeartbeats 3200000 in
theorem walk (r0 c0 : Int) (a0 : Option Addr) (len0 cap0 : Nat) (z0 : List Int) (s0 e0 : Int) (b0 : Option Addr) (lem0 caq0 : Nat) (y0 : List Int) (w : World) (w0 : IsRow .i64 w a0 len0 cap0 z0) (u0 : IsRow .i64 w b0 lem0 caq0 y0) :
    Calls Try.prog 10 #[.agg #[.int .i64 r0, .int .i64 c0, .slice a0 len0 cap0, .int .i64 s0, .int .i64 e0, .slice b0 lem0 caq0]] w fun e w' => e = .returned (.bool true) ∧ Below w.heap.size w w' := by
  obtain ⟨xs0, hx0, hxl⟩ := w0.sees
  subst hxl
  obtain ⟨ys0, hy0, hyl⟩ := u0.sees
  subst hyl
  have G0 : w.grownBy (w.alloc (.cells #[.int .i64 r0, .int .i64 c0, .slice a0 xs0.length cap0, .int .i64 s0, .int .i64 e0, .slice b0 ys0.length caq0] 45)) none := World.grownBy_alloc _ _ _
  have A0 := Six.new w (.int .i64 r0) (.int .i64 c0) (.slice a0 xs0.length cap0) (.int .i64 s0) (.int .i64 e0) (.slice b0 ys0.length caq0) 45
  obtain ⟨q, hq⟩ : ∃ q, q = lk r0 c0 xs0 s0 e0 ys0 := ⟨_, rfl⟩
  obtain ⟨R0, hR0⟩ : ∃ R0, R0 = pN q r0 := ⟨_, rfl⟩
  obtain ⟨C0, hC0⟩ : ∃ C0, C0 = pN q c0 := ⟨_, rfl⟩
  obtain ⟨l, hll⟩ : ∃ l, l = pV q (addL xs0 ys0) := ⟨_, rfl⟩
  have hvl : l.length ≤ 25 := by rw [hll, hq]; exact addV_len _ _ _ _ _ _
  by_cases hn : xs0.length + ys0.length ≤ 1048576
  · skip
    have hxn : xs0.length ≤ 1048576 := by omega
    have hyn : ys0.length ≤ 1048576 := by omega
    have ok : ¬ (1048576 - (xs0.length : Int) - (ys0.length : Int)) < 0 := by omega
    have C1 : ∀ u v v', Sees u v xs0 → Sees u v' ys0 → Calls Try.prog 35 #[.agg #[.int .i64 r0, .int .i64 c0, v, .int .i64 s0, .int .i64 e0, v']] u (RetM u R0 C0 l) := by intro u v v' k k'; rw [hR0, hC0, hll, hq]; exact joinMatrix _ _ _ _ _ _ _ _ _ k k'
    have C2 : ∀ u v v', Sees u v xs0 → Sees u v' ys0 → Calls Try.prog 37 #[.agg #[.int .i64 r0, .int .i64 c0, v, .int .i64 s0, .int .i64 e0, v']] u (RetM u R0 C0 l) := by intro u v v' k k'; rw [hR0, hC0, hll, hq]; exact joinMatrix_s _ _ _ _ _ _ _ _ _ k k' hxn hyn
    replace C1 := Lib.hid C1
    replace C2 := Lib.hid C2
    clear hq hR0 hC0 hll
    go_enter Try.func10, Try.ntmps10
    have A0_0 := A0.c0
    have A0_1 := A0.c1
    have A0_2 := A0.c2
    have A0_3 := A0.c3
    have A0_4 := A0.c4
    have A0_5 := A0.c5
    go_wp2_with fail
    refine (szSharedMatrix _ _ _ _ _ _ xs0 ys0 _ (hx0.kept G0) (hy0.kept G0) (1048576 - (xs0.length : Int) - (ys0.length : Int)) (by rw [if_pos hn])).mono ?_
    rintro e w1 ⟨rfl, hg⟩
    clear A0_0 A0_1 A0_2 A0_3 A0_4 A0_5
    have m1 := hg.size
    simp at m1
    replace A0 := A0.kept hg (by simp)
    replace G0 := gbt G0 hg
    clear hg
    have A0_0 := A0.c0
    have A0_1 := A0.c1
    have A0_2 := A0.c2
    have A0_3 := A0.c3
    have A0_4 := A0.c4
    have A0_5 := A0.c5
    go_wp2_with fail
    refine (toSharedMatrix _ _ _ _ _ _ xs0 ys0 _ (hx0.kept G0) (hy0.kept G0) hxn hyn).mono ?_
    rintro e w2 ⟨aS, cS, bS, dS, mS, rfl, os, os', _, _, hg⟩
    clear A0_0 A0_1 A0_2 A0_3 A0_4 A0_5
    have m2 := hg.size
    skip
    replace A0 := A0.kept hg (by simp)
    replace G0 := gbt G0 hg
    clear hg
    go_wp2_with fail
    refine (C2.out _ _ _ (Sees.of_own os) (Sees.of_own os')).mono ?_
    rintro e w3 ⟨aW, capW, rfl, oW, hg⟩
    have m3 := hg.size
    skip
    replace A0 := A0.kept hg (by simp)
    replace os := own_kept os hg
    replace os' := own_kept os' hg
    replace G0 := gbt G0 hg
    clear hg
    clear os os'
    have rW' : ∀ q, (.slice aW l.length capW : Value).ownBlock = some q → w2.heap.size ≤ q ∧ q < w3.heap.size := fun q e => by have := oW.lt q e; (try simp at this); omega
    have rW := Lib.hid rW'
    clear rW'
    replace G0 := gbt G0 (World.grownBy_alloc _ (.cells #[.int .i64 R0, .int .i64 C0, .slice aW l.length capW] 26) none)
    replace A0 := A0.alloc (.cells #[.int .i64 R0, .int .i64 C0, .slice aW l.length capW] 26)
    replace oW := oW.alloc (.cells #[.int .i64 R0, .int .i64 C0, .slice aW l.length capW] 26)
    have BW := Three.new w3 (.int .i64 R0) (.int .i64 C0) (.slice aW l.length capW) 26
    have A0_0 := A0.c0
    have A0_1 := A0.c1
    have A0_2 := A0.c2
    have A0_3 := A0.c3
    have A0_4 := A0.c4
    have A0_5 := A0.c5
    go_wp2_with fail
    refine (toSharedMatrix _ _ _ _ _ _ xs0 ys0 _ (hx0.kept G0) (hy0.kept G0) hxn hyn).mono ?_
    rintro e w4 ⟨aX, capX, bX, capY, kX, rfl, oX, oY, hkX, hkY, hg⟩
    clear A0_0 A0_1 A0_2 A0_3 A0_4 A0_5
    have m4 := hg.size
    simp at m4
    replace A0 := A0.kept hg (by simp)
    replace BW := BW.kept hg (by simp)
    replace oW := own_kept oW hg
    replace G0 := gbt G0 hg
    clear hg
    simp at hkX
    have rX' : ∀ q, (.slice aX xs0.length capX : Value).ownBlock = some q → w3.heap.size + 1 ≤ q ∧ q < w4.heap.size := fun q e => by have := oX.lt q e; (try simp at this); omega
    have rX := Lib.hid rX'
    clear rX'
    have rY' : ∀ q, (.slice bX ys0.length capY : Value).ownBlock = some q → kX ≤ q ∧ q < w4.heap.size := fun q e => by have := oY.lt q e; (try simp at this); omega
    have rY := Lib.hid rY'
    clear rY'
    replace hkY := Lib.hid hkY
    replace G0 := gbt G0 (World.grownBy_alloc _ (.cells #[.int .i64 r0, .int .i64 c0, .slice aX xs0.length capX, .int .i64 s0, .int .i64 e0, .slice bX ys0.length capY] 40) none)
    replace A0 := A0.alloc (.cells #[.int .i64 r0, .int .i64 c0, .slice aX xs0.length capX, .int .i64 s0, .int .i64 e0, .slice bX ys0.length capY] 40)
    replace BW := BW.alloc (.cells #[.int .i64 r0, .int .i64 c0, .slice aX xs0.length capX, .int .i64 s0, .int .i64 e0, .slice bX ys0.length capY] 40)
    replace oW := oW.alloc (.cells #[.int .i64 r0, .int .i64 c0, .slice aX xs0.length capX, .int .i64 s0, .int .i64 e0, .slice bX ys0.length capY] 40)
    replace oX := oX.alloc (.cells #[.int .i64 r0, .int .i64 c0, .slice aX xs0.length capX, .int .i64 s0, .int .i64 e0, .slice bX ys0.length capY] 40)
    replace oY := oY.alloc (.cells #[.int .i64 r0, .int .i64 c0, .slice aX xs0.length capX, .int .i64 s0, .int .i64 e0, .slice bX ys0.length capY] 40)
    have BX := Six.new w4 (.int .i64 r0) (.int .i64 c0) (.slice aX xs0.length capX) (.int .i64 s0) (.int .i64 e0) (.slice bX ys0.length capY) 40
    have BX_0 := BX.c0
    have BX_1 := BX.c1
    have BX_2 := BX.c2
    have BX_3 := BX.c3
    have BX_4 := BX.c4
    have BX_5 := BX.c5
    go_wp2_with fail
    refine (C1.out _ _ _ (Sees.of_own oX) (Sees.of_own oY)).mono ?_
    rintro e w5 ⟨aG, capG, rfl, oG, hg⟩
    clear BX_0 BX_1 BX_2 BX_3 BX_4 BX_5
    have m5 := hg.size
    simp at m5
    replace A0 := A0.kept hg (by simp)
    replace BW := BW.kept hg (by simp)
    replace BX := BX.kept hg (by simp)
    replace oW := own_kept oW hg
    replace oX := own_kept oX hg
    replace oY := own_kept oY hg
    replace G0 := gbt G0 hg
    clear hg
    have rG' : ∀ q, (.slice aG l.length capG : Value).ownBlock = some q → w4.heap.size + 1 ≤ q ∧ q < w5.heap.size := fun q e => by have := oG.lt q e; (try simp at this); omega
    have rG := Lib.hid rG'
    clear rG'
    replace G0 := gbt G0 (World.grownBy_alloc _ (.cells #[.int .i64 R0, .int .i64 C0, .slice aG l.length capG] 26) none)
    replace A0 := A0.alloc (.cells #[.int .i64 R0, .int .i64 C0, .slice aG l.length capG] 26)
    replace BW := BW.alloc (.cells #[.int .i64 R0, .int .i64 C0, .slice aG l.length capG] 26)
    replace BX := BX.alloc (.cells #[.int .i64 R0, .int .i64 C0, .slice aG l.length capG] 26)
    replace oW := oW.alloc (.cells #[.int .i64 R0, .int .i64 C0, .slice aG l.length capG] 26)
    replace oX := oX.alloc (.cells #[.int .i64 R0, .int .i64 C0, .slice aG l.length capG] 26)
    replace oY := oY.alloc (.cells #[.int .i64 R0, .int .i64 C0, .slice aG l.length capG] 26)
    replace oG := oG.alloc (.cells #[.int .i64 R0, .int .i64 C0, .slice aG l.length capG] 26)
    have BG := Three.new w5 (.int .i64 R0) (.int .i64 C0) (.slice aG l.length capG) 26
    have BG_0 := BG.c0
    have BG_1 := BG.c1
    have BG_2 := BG.c2
    have BW_0 := BW.c0
    have BW_1 := BW.c1
    have BW_2 := BW.c2
    go_wp2_with fail
    refine (eqMatrix _ _ _ _ l _ (Sees.of_own oG) (Sees.of_own oW)).mono ?_
    rintro e w6 ⟨rfl, hg⟩
    clear BG_0 BG_1 BG_2
    clear BW_0 BW_1 BW_2
    have m6 := hg.size
    simp at m6
    replace A0 := A0.kept hg (by simp)
    replace BW := BW.kept hg (by simp)
    replace BX := BX.kept hg (by simp)
    replace BG := BG.kept hg (by simp)
    replace oW := own_kept oW hg
    replace oX := own_kept oX hg
    replace oY := own_kept oY hg
    replace oG := own_kept oG hg
    replace G0 := gbt G0 hg
    clear hg
    have HM : Hid (∀ w', w6.grownBy w' none → w'.cell? ⟨w.heap.size, 0, none⟩ = some (.int .i64 r0) ∧ w'.cell? ⟨w.heap.size, 1, none⟩ = some (.int .i64 c0) ∧ w'.cell? ⟨w.heap.size, 2, none⟩ = some (.slice a0 xs0.length cap0) ∧ w'.cell? ⟨w.heap.size, 3, none⟩ = some (.int .i64 s0) ∧ w'.cell? ⟨w.heap.size, 4, none⟩ = some (.int .i64 e0) ∧ w'.cell? ⟨w.heap.size, 5, none⟩ = some (.slice b0 ys0.length caq0) ∧ w'.cell? ⟨w4.heap.size, 0, none⟩ = some (.int .i64 r0) ∧ w'.cell? ⟨w4.heap.size, 1, none⟩ = some (.int .i64 c0) ∧ w'.cell? ⟨w4.heap.size, 2, none⟩ = some (.slice aX xs0.length capX) ∧ w'.cell? ⟨w4.heap.size, 3, none⟩ = some (.int .i64 s0) ∧ w'.cell? ⟨w4.heap.size, 4, none⟩ = some (.int .i64 e0) ∧ w'.cell? ⟨w4.heap.size, 5, none⟩ = some (.slice bX ys0.length capY)) := fun w' h => ⟨(A0.kept h (by simp)).c0, (A0.kept h (by simp)).c1, (A0.kept h (by simp)).c2, (A0.kept h (by simp)).c3, (A0.kept h (by simp)).c4, (A0.kept h (by simp)).c5, (BX.kept h (by simp)).c0, (BX.kept h (by simp)).c1, (BX.kept h (by simp)).c2, (BX.kept h (by simp)).c3, (BX.kept h (by simp)).c4, (BX.kept h (by simp)).c5⟩
    have hxD := hx0.kept (gbt G0 (gb_drew w6 none))
    have hyD := hy0.kept (gbt G0 (gb_drew w6 none))
    have s5 := (Sees.of_own oX).kept (gb_drew w6 none)
    have t5 := (Sees.of_own oY).kept (gb_drew w6 none)
    have K0 := gb_drew w6 none
    have A0_0 := A0.c0
    have A0_1 := A0.c1
    have A0_2 := A0.c2
    have A0_3 := A0.c3
    have A0_4 := A0.c4
    have A0_5 := A0.c5
    have BX_0 := BX.c0
    have BX_1 := BX.c1
    have BX_2 := BX.c2
    have BX_3 := BX.c3
    have BX_4 := BX.c4
    have BX_5 := BX.c5
    go_wp2_with fail
    clear A0_0 A0_1 A0_2 A0_3 A0_4 A0_5
    clear BX_0 BX_1 BX_2 BX_3 BX_4 BX_5
    go_region_held3 (fun w' => w'.cell? ⟨w.heap.size, 0, none⟩ = some (.int .i64 r0) ∧ w'.cell? ⟨w.heap.size, 1, none⟩ = some (.int .i64 c0) ∧ w'.cell? ⟨w.heap.size, 2, none⟩ = some (.slice a0 xs0.length cap0) ∧ w'.cell? ⟨w.heap.size, 3, none⟩ = some (.int .i64 s0) ∧ w'.cell? ⟨w.heap.size, 4, none⟩ = some (.int .i64 e0) ∧ w'.cell? ⟨w.heap.size, 5, none⟩ = some (.slice b0 ys0.length caq0) ∧ w'.cell? ⟨w4.heap.size, 0, none⟩ = some (.int .i64 r0) ∧ w'.cell? ⟨w4.heap.size, 1, none⟩ = some (.int .i64 c0) ∧ w'.cell? ⟨w4.heap.size, 2, none⟩ = some (.slice aX xs0.length capX) ∧ w'.cell? ⟨w4.heap.size, 3, none⟩ = some (.int .i64 s0) ∧ w'.cell? ⟨w4.heap.size, 4, none⟩ = some (.int .i64 e0) ∧ w'.cell? ⟨w4.heap.size, 5, none⟩ = some (.slice bX ys0.length capY))
      (exact HM.out _ (by with_reducible assumption))
      (first
        | (go_at_call 38; have _t := K0; refine (toSharedMatrix _ _ _ _ _ _ xs0 ys0 _ hxD hyD hxn hyn).mono ?_; rintro e u6 ⟨a6, k6, b6, l6, m6, rfl, o6, o6', hk6, _, hg⟩; have K1 := gbt K0 hg; replace s5 := s5.kept hg; replace t5 := t5.kept hg; have s6 := Sees.of_own o6; have t6 := Sees.of_own o6'; clear K0 hg)
        | (go_at_call 39; have _t := K1; refine (eqSharedMatrix _ _ _ _ _ _ _ _ xs0 ys0 _ s5 t5 s6 t6).mono ?_; rintro e w7 ⟨rfl, hg⟩; have K2 := gbt K1 hg; clear K1 hg))
    clear HM hxD hyD s5 t5 s6 t6 o6 o6' hk6
    have m7 := K2.size
    replace A0 := A0.kept K2 (by simp)
    replace BW := BW.kept K2 (by simp)
    replace BX := BX.kept K2 (by simp)
    replace BG := BG.kept K2 (by simp)
    replace oW := own_kept oW K2
    replace oX := own_kept oX K2
    replace oY := own_kept oY K2
    replace oG := own_kept oG K2
    replace G0 := gbt G0 K2
    clear K2
    have BX_0 := BX.c0
    have BX_1 := BX.c1
    have BX_2 := BX.c2
    have BX_3 := BX.c3
    have BX_4 := BX.c4
    have BX_5 := BX.c5
    go_wp2_with fail
    refine (markSharedMatrix _ _ _ _ _ _ _ _ xs0 ys0 xs0.length ys0.length 1 _ oX oY (ne_of (Q := fun q => q < kX) rY.out hkY.out (by intro q h1 h2; omega)) (by omega) (by omega) (by decide)).mono ?_
    rintro e w8 ⟨rfl, wm, hgm, hg⟩
    clear BX_0 BX_1 BX_2 BX_3 BX_4 BX_5
    have mm8 := hgm.size
    have m8 := hg.size
    clear oX oY hkY BX
    replace A0 := A0.kept hgm (by intro e; have := rX.out _ e.symm; omega)
    replace BW := BW.kept hgm (by intro e; have := rX.out _ e.symm; omega)
    replace BG := BG.kept hgm (by intro e; have := rX.out _ e.symm; omega)
    replace oW := oW.kept hgm (ne_of rW.out rX.out (by intro q h1 h2; omega))
    replace oG := oG.kept hgm (ne_of rG.out rX.out (by intro q h1 h2; omega))
    replace G0 := gb_none G0 hgm (fun q e => by have := rX.out _ e; omega)
    replace A0 := A0.kept hg (by intro e; have := rY.out _ e.symm; omega)
    replace BW := BW.kept hg (by intro e; have := rY.out _ e.symm; omega)
    replace BG := BG.kept hg (by intro e; have := rY.out _ e.symm; omega)
    replace oW := oW.kept hg (ne_of rW.out rY.out (by intro q h1 h2; omega))
    replace oG := oG.kept hg (ne_of rG.out rY.out (by intro q h1 h2; omega))
    replace G0 := gb_none G0 hg (fun q e => by have := rY.out _ e; omega)
    clear hgm hg
    have kk : ¬ 1 + (xs0.length : Int) + (ys0.length : Int) < 0 := by omega
    have BG_0 := BG.c0
    have BG_1 := BG.c1
    have BG_2 := BG.c2
    have BW_0 := BW.c0
    have BW_1 := BW.c1
    have BW_2 := BW.c2
    go_wp2_with fail
    refine (eqMatrix _ _ _ _ l _ (Sees.of_own oG) (Sees.of_own oW)).mono ?_
    rintro e w9 ⟨rfl, hg⟩
    clear BG_0 BG_1 BG_2
    clear BW_0 BW_1 BW_2
    have m9 := hg.size
    skip
    replace A0 := A0.kept hg (by simp)
    replace BW := BW.kept hg (by simp)
    replace BG := BG.kept hg (by simp)
    replace oW := own_kept oW hg
    replace oG := own_kept oG hg
    replace G0 := gbt G0 hg
    clear hg
    clear kk
    have BG_0 := BG.c0
    have BG_1 := BG.c1
    have BG_2 := BG.c2
    go_wp2_with fail
    refine (markMatrix _ _ _ l.length _ _ 1 _ oG (by omega) (by decide)).mono ?_
    rintro e w10 ⟨rfl, oG', hg⟩
    clear BG_0 BG_1 BG_2
    have m10 := hg.size
    skip
    replace A0 := A0.kept hg (by intro e; have := rG.out _ e.symm; omega)
    replace BW := BW.kept hg (by intro e; have := rG.out _ e.symm; omega)
    replace BG := BG.kept hg (by intro e; have := rG.out _ e.symm; omega)
    replace oW := oW.kept hg (ne_of rW.out rG.out (by intro q h1 h2; omega))
    replace G0 := gb_none G0 hg (fun q e => by have := rG.out _ e; omega)
    clear hg
    clear oG
    have kq : ¬ (1 : Int) + (l.length : Int) < 0 := by omega
    have kn : ((1 : Int) + (l.length : Int) != 1 + (l.length : Int)) = false := by simp
    have BG_0 := BG.c0
    have BG_1 := BG.c1
    have BG_2 := BG.c2
    go_wp2_with fail
    refine (heldMatrix _ _ l.length _ 1 _ (Sees.of_own oG') (by omega) (by decide)).mono ?_
    rintro e w11 ⟨rfl, hg⟩
    clear BG_0 BG_1 BG_2
    have m11 := hg.size
    skip
    replace A0 := A0.kept hg (by simp)
    replace BW := BW.kept hg (by simp)
    replace BG := BG.kept hg (by simp)
    replace oW := own_kept oW hg
    replace oG' := own_kept oG' hg
    replace G0 := gbt G0 hg
    clear hg
    have A0_0 := A0.c0
    have A0_1 := A0.c1
    have A0_2 := A0.c2
    have A0_3 := A0.c3
    have A0_4 := A0.c4
    have A0_5 := A0.c5
    go_wp2_with fail
    refine (toSharedMatrix _ _ _ _ _ _ xs0 ys0 _ (hx0.kept G0) (hy0.kept G0) hxn hyn).mono ?_
    rintro e w12 ⟨ah, ch, bh, dh, mh, rfl, oh, oh', _, _, hg⟩
    clear A0_0 A0_1 A0_2 A0_3 A0_4 A0_5
    have m12 := hg.size
    skip
    replace A0 := A0.kept hg (by simp)
    replace BW := BW.kept hg (by simp)
    replace BG := BG.kept hg (by simp)
    replace oW := own_kept oW hg
    replace oG' := own_kept oG' hg
    replace G0 := gbt G0 hg
    clear hg
    go_wp2_with fail
    refine (C1.out _ _ _ (Sees.of_own oh) (Sees.of_own oh')).mono ?_
    rintro e w13 ⟨aH, capH, rfl, oH, hg⟩
    have m13 := hg.size
    skip
    replace A0 := A0.kept hg (by simp)
    replace BW := BW.kept hg (by simp)
    replace BG := BG.kept hg (by simp)
    replace oW := own_kept oW hg
    replace oG' := own_kept oG' hg
    replace oh := own_kept oh hg
    replace oh' := own_kept oh' hg
    replace G0 := gbt G0 hg
    clear hg
    clear oh oh'
    replace G0 := gbt G0 (World.grownBy_alloc _ (.cells #[.int .i64 R0, .int .i64 C0, .slice aH l.length capH] 26) none)
    replace A0 := A0.alloc (.cells #[.int .i64 R0, .int .i64 C0, .slice aH l.length capH] 26)
    replace BW := BW.alloc (.cells #[.int .i64 R0, .int .i64 C0, .slice aH l.length capH] 26)
    replace BG := BG.alloc (.cells #[.int .i64 R0, .int .i64 C0, .slice aH l.length capH] 26)
    replace oW := oW.alloc (.cells #[.int .i64 R0, .int .i64 C0, .slice aH l.length capH] 26)
    replace oG' := oG'.alloc (.cells #[.int .i64 R0, .int .i64 C0, .slice aH l.length capH] 26)
    replace oH := oH.alloc (.cells #[.int .i64 R0, .int .i64 C0, .slice aH l.length capH] 26)
    have BH := Three.new w13 (.int .i64 R0) (.int .i64 C0) (.slice aH l.length capH) 26
    have BH_0 := BH.c0
    have BH_1 := BH.c1
    have BH_2 := BH.c2
    have BW_0 := BW.c0
    have BW_1 := BW.c1
    have BW_2 := BW.c2
    go_wp2_with fail
    refine (eqMatrix _ _ _ _ l _ (Sees.of_own oH) (Sees.of_own oW)).mono ?_
    rintro e w14 ⟨rfl, hg⟩
    clear BH_0 BH_1 BH_2
    clear BW_0 BW_1 BW_2
    have m14 := hg.size
    simp at m14
    replace A0 := A0.kept hg (by simp)
    replace BW := BW.kept hg (by simp)
    replace BG := BG.kept hg (by simp)
    replace BH := BH.kept hg (by simp)
    replace oW := own_kept oW hg
    replace oG' := own_kept oG' hg
    replace oH := own_kept oH hg
    replace G0 := gbt G0 hg
    clear hg
    have BG_0 := BG.c0
    have BG_1 := BG.c1
    have BG_2 := BG.c2
    go_wp2_with fail
    refine (heldMatrix _ _ l.length _ 1 _ (Sees.of_own oG') (by omega) (by decide)).mono ?_
    rintro e w15 ⟨rfl, hg⟩
    clear BG_0 BG_1 BG_2
    have m15 := hg.size
    skip
    replace A0 := A0.kept hg (by simp)
    replace BW := BW.kept hg (by simp)
    replace BG := BG.kept hg (by simp)
    replace BH := BH.kept hg (by simp)
    replace oW := own_kept oW hg
    replace oG' := own_kept oG' hg
    replace oH := own_kept oH hg
    replace G0 := gbt G0 hg
    clear hg
    go_wp2_with fail
    go_ret
    exact ⟨rfl, gb_below G0⟩
  · skip
    go_enter Try.func10, Try.ntmps10
    have A0_0 := A0.c0
    have A0_1 := A0.c1
    have A0_2 := A0.c2
    have A0_3 := A0.c3
    have A0_4 := A0.c4
    have A0_5 := A0.c5
    go_wp2_with fail
    refine (szSharedMatrix _ _ _ _ _ _ xs0 ys0 _ (hx0.kept G0) (hy0.kept G0) (-1) (by rw [if_neg hn])).mono ?_
    rintro e w1 ⟨rfl, hg⟩
    clear A0_0 A0_1 A0_2 A0_3 A0_4 A0_5
    have m1 := hg.size
    simp at m1
    replace A0 := A0.kept hg (by simp)
    replace G0 := gbt G0 hg
    clear hg
    go_wp2_with fail
    go_ret
    exact ⟨rfl, gb_below G0⟩
end Go.Proofs.Ytfnajbifdilfmaa.fnExactJoinMatrix
