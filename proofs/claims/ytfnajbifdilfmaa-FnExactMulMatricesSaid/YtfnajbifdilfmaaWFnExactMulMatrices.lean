/- The law FnExactMulMatrices returns true for every matrix: the program's MulMatrices and the reference's return the same, in memory of its own, and the arguments stay as they were. Conditions: none. The walk. -/
import Derived.Test.YtfnajbifdilfmaaMulS
import Derived.WalkKit
import Derived.WalkLawsBesides
import Derived.WalkSpells
import Derived.Deep.RegionHeld3
import Derived.Deep.CutRange
namespace Go.Proofs.Ytfnajbifdilfmaa.fnExactMulMatrices
open Go Go.RowKit
set_option linter.unusedVariables false

set_option maxHeartbeats 3200000 in
theorem walk (r0 c0 : Int) (a0 : Option Addr) (len0 cap0 : Nat) (z0 : List Int) (r1 c1 : Int) (a1 : Option Addr) (len1 cap1 : Nat) (z1 : List Int) (w : World) (wr0 : (Lit.int .i64 r0).wf = true) (wc0 : (Lit.int .i64 c0).wf = true) (w0 : IsRow .i64 w a0 len0 cap0 z0) (wr1 : (Lit.int .i64 r1).wf = true) (wc1 : (Lit.int .i64 c1).wf = true) (w1 : IsRow .i64 w a1 len1 cap1 z1) :
    Calls Try.prog 3 #[.agg #[.int .i64 r0, .int .i64 c0, .slice a0 len0 cap0], .agg #[.int .i64 r1, .int .i64 c1, .slice a1 len1 cap1]] w fun e w' => e = .returned (.bool true) ∧ Below w.heap.size w w' := by
  obtain ⟨xs0, hs0, hxl0⟩ := w0.sees
  subst hxl0
  obtain ⟨xs1, hs1, hxl1⟩ := w1.sees
  subst hxl1
  have G0 : w.grownBy ((w.alloc (.cells #[.int .i64 r0, .int .i64 c0, .slice a0 xs0.length cap0] 24)).alloc (.cells #[.int .i64 r1, .int .i64 c1, .slice a1 xs1.length cap1] 24)) none := gbt (World.grownBy_alloc _ _ _) (World.grownBy_alloc _ _ _)
  have A0 : Three ((w.alloc (.cells #[.int .i64 r0, .int .i64 c0, .slice a0 xs0.length cap0] 24)).alloc (.cells #[.int .i64 r1, .int .i64 c1, .slice a1 xs1.length cap1] 24)) w.heap.size (.int .i64 r0) (.int .i64 c0) (.slice a0 xs0.length cap0) := (Three.new w _ _ _ _).alloc _
  have A1 : Three ((w.alloc (.cells #[.int .i64 r0, .int .i64 c0, .slice a0 xs0.length cap0] 24)).alloc (.cells #[.int .i64 r1, .int .i64 c1, .slice a1 xs1.length cap1] 24)) (w.heap.size + 1) (.int .i64 r1) (.int .i64 c1) (.slice a1 xs1.length cap1) := by simpa using Three.new (w.alloc (.cells #[.int .i64 r0, .int .i64 c0, .slice a0 xs0.length cap0] 24)) (.int .i64 r1) (.int .i64 c1) (.slice a1 xs1.length cap1) 24
  by_cases hn0 : xs0.length ≤ 1048576
  · skip
    by_cases hn1 : xs0.length + xs1.length ≤ 1048576
    · skip
      go_enter Try.func3, Try.ntmps3
      have ok0 : ¬ (1048576 - (xs0.length : Int)) < 0 := by omega
      have A0a := A0.c0
      have A0b := A0.c1
      have A0c := A0.c2
      go_wp2_with fail
      refine (szMatrix _ _ _ xs0 (1048576) (1048576 - (xs0.length : Int)) _ (hs0.kept G0) (by constructor <;> omega) (szL_ok (by omega))).mono ?_
      rintro e w1 ⟨rfl, hg⟩
      clear A0a A0b A0c
      have m1 := hg.size
      simp at m1
      replace A0 := A0.kept hg (by simp)
      replace A1 := A1.kept hg (by simp)
      replace G0 := gbt G0 hg
      clear hg
      have ok1 : ¬ (1048576 - (xs0.length : Int) - (xs1.length : Int)) < 0 := by omega
      have A1a := A1.c0
      have A1b := A1.c1
      have A1c := A1.c2
      go_wp2_with fail
      refine (szMatrix _ _ _ xs1 (1048576 - (xs0.length : Int)) (1048576 - (xs0.length : Int) - (xs1.length : Int)) _ (hs1.kept G0) (by constructor <;> omega) (szL_ok (by omega))).mono ?_
      rintro e w2 ⟨rfl, hg⟩
      clear A1a A1b A1c
      have m2 := hg.size
      skip
      replace A0 := A0.kept hg (by simp)
      replace A1 := A1.kept hg (by simp)
      replace G0 := gbt G0 hg
      clear hg
      have A0a := A0.c0
      have A0b := A0.c1
      have A0c := A0.c2
      have A1a := A1.c0
      have A1b := A1.c1
      have A1c := A1.c2
      go_wp2_with fail
      have HM : Hid (∀ w', w2.grownBy w' none → w'.cell? ⟨w.heap.size, 0, none⟩ = some (.int .i64 r0) ∧ w'.cell? ⟨w.heap.size, 1, none⟩ = some (.int .i64 c0) ∧ w'.cell? ⟨w.heap.size, 2, none⟩ = some (.slice a0 xs0.length cap0) ∧ w'.cell? ⟨w.heap.size + 1, 0, none⟩ = some (.int .i64 r1) ∧ w'.cell? ⟨w.heap.size + 1, 1, none⟩ = some (.int .i64 c1) ∧ w'.cell? ⟨w.heap.size + 1, 2, none⟩ = some (.slice a1 xs1.length cap1)) := fun w' h => ⟨(A0.kept h (by simp)).c0, (A0.kept h (by simp)).c1, (A0.kept h (by simp)).c2, (A1.kept h (by simp)).c0, (A1.kept h (by simp)).c1, (A1.kept h (by simp)).c2⟩
      go_cut [6] from 24 to 28 (fun v wx => ∃ (B : Nat) (a : Option Addr) (cap : Nat), v = .pointer (some ⟨B, 0, none⟩) ∧ Three wx B (.int .i64 (pN (mk r0 c0 xs0 r1 c1 xs1) r0)) (.int .i64 (pN (mk r0 c0 xs0 r1 c1 xs1) c1)) (.slice a (pV (mk r0 c0 xs0 r1 c1 xs1) (mulV r0 c0 xs0 c1 xs1)).length cap) ∧ wx.ownsRow w2.heap.size 3 1 (.slice a (pV (mk r0 c0 xs0 r1 c1 xs1) (mulV r0 c0 xs0 c1 xs1)).length cap) (pV (mk r0 c0 xs0 r1 c1 xs1) (mulV r0 c0 xs0 c1 xs1)).length (ints (pV (mk r0 c0 xs0 r1 c1 xs1) (mulV r0 c0 xs0 c1 xs1))) ∧ w2.grownBy wx none ∧ w2.heap.size ≤ B)
      case first =>
        go_region_held3 (fun w' => w'.cell? ⟨w.heap.size, 0, none⟩ = some (.int .i64 r0) ∧ w'.cell? ⟨w.heap.size, 1, none⟩ = some (.int .i64 c0) ∧ w'.cell? ⟨w.heap.size, 2, none⟩ = some (.slice a0 xs0.length cap0) ∧ w'.cell? ⟨w.heap.size + 1, 0, none⟩ = some (.int .i64 r1) ∧ w'.cell? ⟨w.heap.size + 1, 1, none⟩ = some (.int .i64 c1) ∧ w'.cell? ⟨w.heap.size + 1, 2, none⟩ = some (.slice a1 xs1.length cap1))
          (exact HM.out _ (by (repeat (with_reducible first | assumption | exact World.grownBy.refl _ _ | refine gbt ?_ (World.grownBy_alloc _ _ none) | refine gbt ?_ (gb_drew _ none) | refine gb_setNew ?_ (by first | omega | (simp; omega) | (simp; (first | done | fail))) _ _)); (first | done | fail)))
          (first | (go_at_call 16; (fail_if_success (have _t := s1)); (fail_if_success (have _t := s2)); refine (toMatrix _ _ _ xs0 _ (hs0.kept (gbt G0 (by (repeat (with_reducible first | assumption | exact World.grownBy.refl _ _ | refine gbt ?_ (World.grownBy_alloc _ _ none) | refine gbt ?_ (gb_drew _ none) | refine gb_setNew ?_ (by first | omega | (simp; omega) | (simp; (first | done | fail))) _ _)); (first | done | fail)))) (by omega)).mono ?_; rintro e u1 ⟨v1, rfl, o1, g1⟩; obtain ⟨a1', cap1', rfl⟩ := own_slice o1; have s1 := Sees.of_own o1; have z1 : w2.heap.size ≤ u1.heap.size := (@World.grownBy.size w2 u1 none (gbt (by (repeat (with_reducible first | assumption | exact World.grownBy.refl _ _ | refine gbt ?_ (World.grownBy_alloc _ _ none) | refine gbt ?_ (gb_drew _ none) | refine gb_setNew ?_ (by first | omega | (simp; omega) | (simp; (first | done | fail))) _ _)); (first | done | fail)) g1)); (first | (have D1 : Three u1 w2.heap.size (.int .i64 0) (.int .i64 0) (.slice none 0 0) := Three.kept (by (repeat (with_reducible first | assumption | exact Three.new _ _ _ _ _ | refine Three.alloc ?_ _ | refine Three.kept ?_ (gb_drew _ none) (by simp))); (first | done | fail)) g1 (by simp)) | skip); (have K1 : w2.grownBy u1 none := gbt (by (repeat (with_reducible first | assumption | exact World.grownBy.refl _ _ | refine gbt ?_ (World.grownBy_alloc _ _ none) | refine gbt ?_ (gb_drew _ none) | refine gb_setNew ?_ (by first | omega | (simp; omega) | (simp; (first | done | fail))) _ _)); (first | done | fail)) g1); clear o1 g1) | (go_at_call 15; refine (mulMatrices_s _ _ _ _ _ _ xs0 xs1 _ (by (repeat (with_reducible first | exact s3 | refine Sees.kept ?_ (World.grownBy_alloc _ _ none) | refine Sees.kept ?_ (gb_drew _ none))); (first | done | fail)) (by (repeat (with_reducible first | exact s2 | refine Sees.kept ?_ (World.grownBy_alloc _ _ none) | refine Sees.kept ?_ (gb_drew _ none))); (first | done | fail)) (by omega) (by omega)).mono ?_; rintro e u3 ⟨a3', cap3', rfl, o3, g3⟩; have O3 := own_base o3 (b' := w2.heap.size) (@World.grownBy.size w2 _ none (by (repeat (with_reducible first | assumption | exact World.grownBy.refl _ _ | refine gbt ?_ (World.grownBy_alloc _ _ none) | refine gbt ?_ (gb_drew _ none) | refine gb_setNew ?_ (by first | omega | (simp; omega) | (simp; (first | done | fail))) _ _)); (first | done | fail))); have z3 : u2.heap.size ≤ u3.heap.size := (@World.grownBy.size u2 u3 none (gbt (by (repeat (with_reducible first | assumption | exact World.grownBy.refl _ _ | refine gbt ?_ (World.grownBy_alloc _ _ none) | refine gbt ?_ (gb_drew _ none) | refine gb_setNew ?_ (by first | omega | (simp; omega) | (simp; (first | done | fail))) _ _)); (first | done | fail)) g3)); (first | (have _t := D2; have D3 : Three u3 w2.heap.size (.int .i64 0) (.int .i64 0) (.slice none 0 0) := Three.kept (by (repeat (with_reducible first | assumption | exact Three.new _ _ _ _ _ | refine Three.alloc ?_ _ | refine Three.kept ?_ (gb_drew _ none) (by simp))); (first | done | fail)) g3 (by simp); have y3 : w2.heap.size < u2.heap.size := D2.lt; have O4 := own_base o3 (b' := u2.heap.size) (Nat.le_refl _)) | (have _t := D2; have D3 : Three u3 u1.heap.size (.int .i64 0) (.int .i64 0) (.slice none 0 0) := Three.kept (by (repeat (with_reducible first | assumption | exact Three.new _ _ _ _ _ | refine Three.alloc ?_ _ | refine Three.kept ?_ (gb_drew _ none) (by simp))); (first | done | fail)) g3 (by simp); have y3 : u1.heap.size < u2.heap.size := D2.lt; have O4 := own_base o3 (b' := u2.heap.size) (Nat.le_refl _)) | (skip; have D3 : Three u3 u2.heap.size (.int .i64 0) (.int .i64 0) (.slice none 0 0) := Three.kept (by (repeat (with_reducible first | assumption | exact Three.new _ _ _ _ _ | refine Three.alloc ?_ _ | refine Three.kept ?_ (gb_drew _ none) (by simp))); (first | done | fail)) g3 (by simp); have O4 := own_base o3 (b' := u2.heap.size + 1) (by simp; (first | done | fail))) | skip); (try (have d0 := D3.c0; have d1 := D3.c1; have d2 := D3.c2; have d3 := D3.f0; have d4 := D3.f1; have d5 := D3.f2)); (have K3 : w2.grownBy u3 none := gbt (by (repeat (with_reducible first | assumption | exact World.grownBy.refl _ _ | refine gbt ?_ (World.grownBy_alloc _ _ none) | refine gbt ?_ (gb_drew _ none) | refine gb_setNew ?_ (by first | omega | (simp; omega) | (simp; (first | done | fail))) _ _)); (first | done | fail)) g3); clear o3 g3 s2 s3 K2) | (go_at_call 16; have _t := s1; refine (toMatrix _ _ _ xs1 _ (hs1.kept (gbt G0 (by (repeat (with_reducible first | assumption | exact World.grownBy.refl _ _ | refine gbt ?_ (World.grownBy_alloc _ _ none) | refine gbt ?_ (gb_drew _ none) | refine gb_setNew ?_ (by first | omega | (simp; omega) | (simp; (first | done | fail))) _ _)); (first | done | fail)))) (by omega)).mono ?_; rintro e u2 ⟨v2, rfl, o2, g2⟩; obtain ⟨a2', cap2', rfl⟩ := own_slice o2; have s2 := Sees.of_own o2; have s3 : Sees u2 (.slice a1' xs0.length cap1') xs0 := Sees.kept (by (repeat (with_reducible first | exact s1 | refine Sees.kept ?_ (World.grownBy_alloc _ _ none) | refine Sees.kept ?_ (gb_drew _ none))); (first | done | fail)) g2; have z2 : u1.heap.size ≤ u2.heap.size := (@World.grownBy.size u1 u2 none (gbt (by (repeat (with_reducible first | assumption | exact World.grownBy.refl _ _ | refine gbt ?_ (World.grownBy_alloc _ _ none) | refine gbt ?_ (gb_drew _ none) | refine gb_setNew ?_ (by first | omega | (simp; omega) | (simp; (first | done | fail))) _ _)); (first | done | fail)) g2)); (first | (have _t := D1; have D2 : Three u2 w2.heap.size (.int .i64 0) (.int .i64 0) (.slice none 0 0) := Three.kept (by (repeat (with_reducible first | assumption | exact Three.new _ _ _ _ _ | refine Three.alloc ?_ _ | refine Three.kept ?_ (gb_drew _ none) (by simp))); (first | done | fail)) g2 (by simp)) | (have D2 : Three u2 u1.heap.size (.int .i64 0) (.int .i64 0) (.slice none 0 0) := Three.kept (by (repeat (with_reducible first | assumption | exact Three.new _ _ _ _ _ | refine Three.alloc ?_ _ | refine Three.kept ?_ (gb_drew _ none) (by simp))); (first | done | fail)) g2 (by simp)) | skip); (have K2 : w2.grownBy u2 none := gbt (by (repeat (with_reducible first | assumption | exact World.grownBy.refl _ _ | refine gbt ?_ (World.grownBy_alloc _ _ none) | refine gbt ?_ (gb_drew _ none) | refine gb_setNew ?_ (by first | omega | (simp; omega) | (simp; (first | done | fail))) _ _)); (first | done | fail)) g2); clear o2 g2 s1 K1))
        all_goals go_wp2_with fail
        all_goals go_meet
        all_goals case rel => exact ⟨_, _, _, rfl, by first | exact Three.new _ _ _ _ _ | exact (Three.set D3 _ _ _).1, by first | exact (by (repeat (with_reducible first | exact O3 | refine own_kept ?_ (World.grownBy_alloc _ _ none) | refine own_kept ?_ (gb_drew _ none))); (first | done | fail)) | exact own_base (b := u2.heap.size) (by (repeat (with_reducible first | exact O4 | refine own_kept ?_ (World.grownBy_alloc _ _ none) | refine own_kept ?_ (gb_drew _ none) | refine ownsRow_setCell_below ?_ (by first | omega | (simp; omega) | (simp; (first | done | fail))) _)); (first | done | fail)) (by omega) | exact own_base (b := u2.heap.size + 1) (by (repeat (with_reducible first | exact O4 | refine own_kept ?_ (World.grownBy_alloc _ _ none) | refine own_kept ?_ (gb_drew _ none) | refine ownsRow_setCell_below ?_ (by first | omega | (simp; omega) | (simp; (first | done | fail))) _)); (first | done | fail)) (by omega), (by (repeat (with_reducible first | assumption | exact World.grownBy.refl _ _ | refine gbt ?_ (World.grownBy_alloc _ _ none) | refine gbt ?_ (gb_drew _ none) | refine gb_setNew ?_ (by first | omega | (simp; omega) | (simp; (first | done | fail))) _ _)); (first | done | fail)), by omega⟩
      clear A0a A0b A0c
      clear A1a A1b A1c
      obtain ⟨BW, aW, capW, rfl, BW', oW, hg, hW⟩ := hcut
      clear HM
      obtain ⟨w3, rfl⟩ : ∃ x, x = wc := ⟨_, rfl⟩
      have yW := BW'.lt
      have m3 := hg.size
      replace A0 := A0.kept hg (by simp)
      replace A1 := A1.kept hg (by simp)
      replace G0 := gbt G0 hg
      clear hg
      have rW' : ∀ q, (.slice aW (pV (mk r0 c0 xs0 r1 c1 xs1) (mulV r0 c0 xs0 c1 xs1)).length capW : Value).ownBlock = some q → w2.heap.size ≤ q ∧ q < w3.heap.size := fun q e => by have := oW.lt q e; (try simp at this); omega
      have rW := Lib.hid rW'
      clear rW'
      have A0a := A0.c0
      have A0b := A0.c1
      have A0c := A0.c2
      go_wp2_with fail
      refine (toMatrix _ _ _ xs0 _ (hs0.kept G0) (by omega)).mono ?_
      rintro e w4 ⟨vX0, rfl, oX0, hg⟩
      clear A0a A0b A0c
      have m4 := hg.size
      skip
      obtain ⟨aX0, capX0, rfl⟩ := own_slice oX0
      replace A0 := A0.kept hg (by simp)
      replace A1 := A1.kept hg (by simp)
      replace BW' := BW'.kept hg (by simp)
      replace oW := own_kept oW hg
      replace G0 := gbt G0 hg
      clear hg
      have rX0' : ∀ q, (.slice aX0 xs0.length capX0 : Value).ownBlock = some q → w3.heap.size ≤ q ∧ q < w4.heap.size := fun q e => by have := oX0.lt q e; (try simp at this); omega
      have rX0 := Lib.hid rX0'
      clear rX0'
      replace G0 := gbt G0 (World.grownBy_alloc _ (.cells #[.int .i64 r0, .int .i64 c0, .slice aX0 xs0.length capX0] 26) none)
      replace A0 := A0.alloc (.cells #[.int .i64 r0, .int .i64 c0, .slice aX0 xs0.length capX0] 26)
      replace A1 := A1.alloc (.cells #[.int .i64 r0, .int .i64 c0, .slice aX0 xs0.length capX0] 26)
      replace BW' := BW'.alloc (.cells #[.int .i64 r0, .int .i64 c0, .slice aX0 xs0.length capX0] 26)
      replace oW := oW.alloc (.cells #[.int .i64 r0, .int .i64 c0, .slice aX0 xs0.length capX0] 26)
      replace oX0 := oX0.alloc (.cells #[.int .i64 r0, .int .i64 c0, .slice aX0 xs0.length capX0] 26)
      have BX0 := Three.new w4 (.int .i64 r0) (.int .i64 c0) (.slice aX0 xs0.length capX0) 26
      have A1a := A1.c0
      have A1b := A1.c1
      have A1c := A1.c2
      go_wp2_with fail
      refine (toMatrix _ _ _ xs1 _ (hs1.kept G0) (by omega)).mono ?_
      rintro e w5 ⟨vX1, rfl, oX1, hg⟩
      clear A1a A1b A1c
      have m5 := hg.size
      simp at m5
      obtain ⟨aX1, capX1, rfl⟩ := own_slice oX1
      replace A0 := A0.kept hg (by simp)
      replace A1 := A1.kept hg (by simp)
      replace BW' := BW'.kept hg (by simp)
      replace BX0 := BX0.kept hg (by simp)
      replace oW := own_kept oW hg
      replace oX0 := own_kept oX0 hg
      replace G0 := gbt G0 hg
      clear hg
      have rX1' : ∀ q, (.slice aX1 xs1.length capX1 : Value).ownBlock = some q → w4.heap.size + 1 ≤ q ∧ q < w5.heap.size := fun q e => by have := oX1.lt q e; (try simp at this); omega
      have rX1 := Lib.hid rX1'
      clear rX1'
      replace G0 := gbt G0 (World.grownBy_alloc _ (.cells #[.int .i64 r1, .int .i64 c1, .slice aX1 xs1.length capX1] 26) none)
      replace A0 := A0.alloc (.cells #[.int .i64 r1, .int .i64 c1, .slice aX1 xs1.length capX1] 26)
      replace A1 := A1.alloc (.cells #[.int .i64 r1, .int .i64 c1, .slice aX1 xs1.length capX1] 26)
      replace BW' := BW'.alloc (.cells #[.int .i64 r1, .int .i64 c1, .slice aX1 xs1.length capX1] 26)
      replace BX0 := BX0.alloc (.cells #[.int .i64 r1, .int .i64 c1, .slice aX1 xs1.length capX1] 26)
      replace oW := oW.alloc (.cells #[.int .i64 r1, .int .i64 c1, .slice aX1 xs1.length capX1] 26)
      replace oX0 := oX0.alloc (.cells #[.int .i64 r1, .int .i64 c1, .slice aX1 xs1.length capX1] 26)
      replace oX1 := oX1.alloc (.cells #[.int .i64 r1, .int .i64 c1, .slice aX1 xs1.length capX1] 26)
      have BX1 := Three.new w5 (.int .i64 r1) (.int .i64 c1) (.slice aX1 xs1.length capX1) 26
      have BX0a := BX0.c0
      have BX0b := BX0.c1
      have BX0c := BX0.c2
      have BX1a := BX1.c0
      have BX1b := BX1.c1
      have BX1c := BX1.c2
      go_wp2_with fail
      refine (mulMatrices _ _ _ _ _ _ xs0 xs1 _ (Sees.of_own oX0) (Sees.of_own oX1)).mono ?_
      rintro e w6 ⟨aG, capG, rfl, oG, hg⟩
      clear BX0a BX0b BX0c
      clear BX1a BX1b BX1c
      have m6 := hg.size
      simp at m6
      replace A0 := A0.kept hg (by simp)
      replace A1 := A1.kept hg (by simp)
      replace BW' := BW'.kept hg (by simp)
      replace BX0 := BX0.kept hg (by simp)
      replace BX1 := BX1.kept hg (by simp)
      replace oW := own_kept oW hg
      replace oX0 := own_kept oX0 hg
      replace oX1 := own_kept oX1 hg
      replace G0 := gbt G0 hg
      clear hg
      have rG' : ∀ q, (.slice aG (pV (mk r0 c0 xs0 r1 c1 xs1) (mulV r0 c0 xs0 c1 xs1)).length capG : Value).ownBlock = some q → w5.heap.size + 1 ≤ q ∧ q < w6.heap.size := fun q e => by have := oG.lt q e; (try simp at this); omega
      have rG := Lib.hid rG'
      clear rG'
      replace G0 := gbt G0 (World.grownBy_alloc _ (.cells #[.int .i64 (pN (mk r0 c0 xs0 r1 c1 xs1) r0), .int .i64 (pN (mk r0 c0 xs0 r1 c1 xs1) c1), .slice aG (pV (mk r0 c0 xs0 r1 c1 xs1) (mulV r0 c0 xs0 c1 xs1)).length capG] 26) none)
      replace A0 := A0.alloc (.cells #[.int .i64 (pN (mk r0 c0 xs0 r1 c1 xs1) r0), .int .i64 (pN (mk r0 c0 xs0 r1 c1 xs1) c1), .slice aG (pV (mk r0 c0 xs0 r1 c1 xs1) (mulV r0 c0 xs0 c1 xs1)).length capG] 26)
      replace A1 := A1.alloc (.cells #[.int .i64 (pN (mk r0 c0 xs0 r1 c1 xs1) r0), .int .i64 (pN (mk r0 c0 xs0 r1 c1 xs1) c1), .slice aG (pV (mk r0 c0 xs0 r1 c1 xs1) (mulV r0 c0 xs0 c1 xs1)).length capG] 26)
      replace BW' := BW'.alloc (.cells #[.int .i64 (pN (mk r0 c0 xs0 r1 c1 xs1) r0), .int .i64 (pN (mk r0 c0 xs0 r1 c1 xs1) c1), .slice aG (pV (mk r0 c0 xs0 r1 c1 xs1) (mulV r0 c0 xs0 c1 xs1)).length capG] 26)
      replace BX0 := BX0.alloc (.cells #[.int .i64 (pN (mk r0 c0 xs0 r1 c1 xs1) r0), .int .i64 (pN (mk r0 c0 xs0 r1 c1 xs1) c1), .slice aG (pV (mk r0 c0 xs0 r1 c1 xs1) (mulV r0 c0 xs0 c1 xs1)).length capG] 26)
      replace BX1 := BX1.alloc (.cells #[.int .i64 (pN (mk r0 c0 xs0 r1 c1 xs1) r0), .int .i64 (pN (mk r0 c0 xs0 r1 c1 xs1) c1), .slice aG (pV (mk r0 c0 xs0 r1 c1 xs1) (mulV r0 c0 xs0 c1 xs1)).length capG] 26)
      replace oW := oW.alloc (.cells #[.int .i64 (pN (mk r0 c0 xs0 r1 c1 xs1) r0), .int .i64 (pN (mk r0 c0 xs0 r1 c1 xs1) c1), .slice aG (pV (mk r0 c0 xs0 r1 c1 xs1) (mulV r0 c0 xs0 c1 xs1)).length capG] 26)
      replace oX0 := oX0.alloc (.cells #[.int .i64 (pN (mk r0 c0 xs0 r1 c1 xs1) r0), .int .i64 (pN (mk r0 c0 xs0 r1 c1 xs1) c1), .slice aG (pV (mk r0 c0 xs0 r1 c1 xs1) (mulV r0 c0 xs0 c1 xs1)).length capG] 26)
      replace oX1 := oX1.alloc (.cells #[.int .i64 (pN (mk r0 c0 xs0 r1 c1 xs1) r0), .int .i64 (pN (mk r0 c0 xs0 r1 c1 xs1) c1), .slice aG (pV (mk r0 c0 xs0 r1 c1 xs1) (mulV r0 c0 xs0 c1 xs1)).length capG] 26)
      replace oG := oG.alloc (.cells #[.int .i64 (pN (mk r0 c0 xs0 r1 c1 xs1) r0), .int .i64 (pN (mk r0 c0 xs0 r1 c1 xs1) c1), .slice aG (pV (mk r0 c0 xs0 r1 c1 xs1) (mulV r0 c0 xs0 c1 xs1)).length capG] 26)
      have BG := Three.new w6 (.int .i64 (pN (mk r0 c0 xs0 r1 c1 xs1) r0)) (.int .i64 (pN (mk r0 c0 xs0 r1 c1 xs1) c1)) (.slice aG (pV (mk r0 c0 xs0 r1 c1 xs1) (mulV r0 c0 xs0 c1 xs1)).length capG) 26
      have BGa := BG.c0
      have BGb := BG.c1
      have BGc := BG.c2
      have BW'a := BW'.c0
      have BW'b := BW'.c1
      have BW'c := BW'.c2
      go_wp2_with fail
      refine (eqMatrix _ _ _ _ (pV (mk r0 c0 xs0 r1 c1 xs1) (mulV r0 c0 xs0 c1 xs1)) _ (Sees.of_own oG) (Sees.of_own oW)).mono ?_
      rintro e w7 ⟨rfl, hg⟩
      clear BGa BGb BGc
      clear BW'a BW'b BW'c
      have m7 := hg.size
      simp at m7
      replace A0 := A0.kept hg (by simp)
      replace A1 := A1.kept hg (by simp)
      replace BW' := BW'.kept hg (by simp)
      replace BX0 := BX0.kept hg (by simp)
      replace BX1 := BX1.kept hg (by simp)
      replace BG := BG.kept hg (by simp)
      replace oW := own_kept oW hg
      replace oX0 := own_kept oX0 hg
      replace oX1 := own_kept oX1 hg
      replace oG := own_kept oG hg
      replace G0 := gbt G0 hg
      clear hg
      have hsD := hs0.kept (gbt G0 (gb_drew _ none))
      have hxD := Sees.of_own (own_kept oX0 (gb_drew _ none))
      have A0a := A0.c0
      have A0b := A0.c1
      have A0c := A0.c2
      have BX0a := BX0.c0
      have BX0b := BX0.c1
      have BX0c := BX0.c2
      have y1 := A0.lt
      have y2 := BX0.lt
      go_wp2_with fail
      go_region_held3 (fun w' => w'.cell? ⟨w.heap.size, 0, none⟩ = some (.int .i64 r0) ∧ w'.cell? ⟨w.heap.size, 1, none⟩ = some (.int .i64 c0) ∧ w'.cell? ⟨w.heap.size, 2, none⟩ = some (.slice a0 xs0.length cap0) ∧
          w'.cell? ⟨w4.heap.size, 0, none⟩ = some (.int .i64 r0) ∧ w'.cell? ⟨w4.heap.size, 1, none⟩ = some (.int .i64 c0) ∧ w'.cell? ⟨w4.heap.size, 2, none⟩ = some (.slice aX0 xs0.length capX0))
        (first | go_keep | (go_split_ands; (refine ⟨?_, ?_, ?_, ?_, ?_, ?_⟩ <;> first | exact hg2.cell (by assumption) (by simp) | exact hg1.cell (by assumption) (by simp))))
        (first | (go_at_call 16; refine (toMatrix _ _ _ xs0 _ hsD (by omega)).mono ?_; rintro e u8 ⟨v6, rfl, ho6, hg1⟩; obtain ⟨a6, cap6, rfl⟩ := own_slice ho6; have hx6 := hxD.kept hg1; have hv6 := Sees.of_own ho6; clear hxD hsD) | (go_at_call 18; refine (eqMatrix _ _ _ _ xs0 _ hx6 hv6).mono ?_; rintro e w8 ⟨rfl, hg2⟩))
      clear A0a A0b A0c
      clear BX0a BX0b BX0c
      have hg : w7.grownBy w8 none := gbt (gb_drew _ none) (gbt hg1 hg2)
      clear hg1 hg2 hx6 hv6 y1 y2 ho6
      have m8 := hg.size
      replace A0 := A0.kept hg (by simp)
      replace A1 := A1.kept hg (by simp)
      replace BW' := BW'.kept hg (by simp)
      replace BX0 := BX0.kept hg (by simp)
      replace BX1 := BX1.kept hg (by simp)
      replace BG := BG.kept hg (by simp)
      replace oW := own_kept oW hg
      replace oX0 := own_kept oX0 hg
      replace oX1 := own_kept oX1 hg
      replace oG := own_kept oG hg
      replace G0 := gbt G0 hg
      clear hg
      have hsD := hs1.kept (gbt G0 (gb_drew _ none))
      have hxD := Sees.of_own (own_kept oX1 (gb_drew _ none))
      have A1a := A1.c0
      have A1b := A1.c1
      have A1c := A1.c2
      have BX1a := BX1.c0
      have BX1b := BX1.c1
      have BX1c := BX1.c2
      have y1 := A1.lt
      have y2 := BX1.lt
      go_wp2_with fail
      go_region_held3 (fun w' => w'.cell? ⟨w.heap.size + 1, 0, none⟩ = some (.int .i64 r1) ∧ w'.cell? ⟨w.heap.size + 1, 1, none⟩ = some (.int .i64 c1) ∧ w'.cell? ⟨w.heap.size + 1, 2, none⟩ = some (.slice a1 xs1.length cap1) ∧
          w'.cell? ⟨w5.heap.size, 0, none⟩ = some (.int .i64 r1) ∧ w'.cell? ⟨w5.heap.size, 1, none⟩ = some (.int .i64 c1) ∧ w'.cell? ⟨w5.heap.size, 2, none⟩ = some (.slice aX1 xs1.length capX1))
        (first | go_keep | (go_split_ands; (refine ⟨?_, ?_, ?_, ?_, ?_, ?_⟩ <;> first | exact hg2.cell (by assumption) (by simp) | exact hg1.cell (by assumption) (by simp))))
        (first | (go_at_call 16; refine (toMatrix _ _ _ xs1 _ hsD (by omega)).mono ?_; rintro e u9 ⟨v6, rfl, ho6, hg1⟩; obtain ⟨a6, cap6, rfl⟩ := own_slice ho6; have hx6 := hxD.kept hg1; have hv6 := Sees.of_own ho6; clear hxD hsD) | (go_at_call 18; refine (eqMatrix _ _ _ _ xs1 _ hx6 hv6).mono ?_; rintro e w9 ⟨rfl, hg2⟩))
      clear A1a A1b A1c
      clear BX1a BX1b BX1c
      have hg : w8.grownBy w9 none := gbt (gb_drew _ none) (gbt hg1 hg2)
      clear hg1 hg2 hx6 hv6 y1 y2 ho6
      have m9 := hg.size
      replace A0 := A0.kept hg (by simp)
      replace A1 := A1.kept hg (by simp)
      replace BW' := BW'.kept hg (by simp)
      replace BX0 := BX0.kept hg (by simp)
      replace BX1 := BX1.kept hg (by simp)
      replace BG := BG.kept hg (by simp)
      replace oW := own_kept oW hg
      replace oX0 := own_kept oX0 hg
      replace oX1 := own_kept oX1 hg
      replace oG := own_kept oG hg
      replace G0 := gbt G0 hg
      clear hg
      have k0 : (0 : Int) ≤ 1 ∧ (1 : Int) ≤ 1099511627776 := by constructor <;> omega
      have BX0a := BX0.c0
      have BX0b := BX0.c1
      have BX0c := BX0.c2
      go_wp2_with fail
      refine (markMatrix _ _ _ xs0.length _ _ (1) _ oX0 (by omega) k0).mono ?_
      rintro e w10 ⟨rfl, oX0', hg⟩
      clear BX0a BX0b BX0c
      have m10 := hg.size
      skip
      replace A0 := A0.kept hg (by intro e; have := rX0.out _ e.symm; omega)
      replace A1 := A1.kept hg (by intro e; have := rX0.out _ e.symm; omega)
      replace BW' := BW'.kept hg (by intro e; have := rX0.out _ e.symm; omega)
      replace BX0 := BX0.kept hg (by intro e; have := rX0.out _ e.symm; omega)
      replace BX1 := BX1.kept hg (by intro e; have := rX0.out _ e.symm; omega)
      replace BG := BG.kept hg (by intro e; have := rX0.out _ e.symm; omega)
      replace oW := oW.kept hg (ne_of rW.out rX0.out (by intro q h1 h2; omega))
      replace oX1 := oX1.kept hg (ne_of rX1.out rX0.out (by intro q h1 h2; omega))
      replace oG := oG.kept hg (ne_of rG.out rX0.out (by intro q h1 h2; omega))
      replace G0 := gb_none G0 hg (fun q e => by have := rX0.out _ e; omega)
      clear hg
      clear oX0 oX0'
      clear BX0 k0
      have k1 : (0 : Int) ≤ 1 + (xs0.length : Int) ∧ (1 + (xs0.length : Int) : Int) ≤ 1099511627776 := by constructor <;> omega
      have BX1a := BX1.c0
      have BX1b := BX1.c1
      have BX1c := BX1.c2
      go_wp2_with fail
      refine (markMatrix _ _ _ xs1.length _ _ (1 + (xs0.length : Int)) _ oX1 (by omega) k1).mono ?_
      rintro e w11 ⟨rfl, oX1', hg⟩
      clear BX1a BX1b BX1c
      have m11 := hg.size
      skip
      replace A0 := A0.kept hg (by intro e; have := rX1.out _ e.symm; omega)
      replace A1 := A1.kept hg (by intro e; have := rX1.out _ e.symm; omega)
      replace BW' := BW'.kept hg (by intro e; have := rX1.out _ e.symm; omega)
      replace BX1 := BX1.kept hg (by intro e; have := rX1.out _ e.symm; omega)
      replace BG := BG.kept hg (by intro e; have := rX1.out _ e.symm; omega)
      replace oW := oW.kept hg (ne_of rW.out rX1.out (by intro q h1 h2; omega))
      replace oG := oG.kept hg (ne_of rG.out rX1.out (by intro q h1 h2; omega))
      replace G0 := gb_none G0 hg (fun q e => by have := rX1.out _ e; omega)
      clear hg
      clear oX1 oX1'
      clear BX1 k1
      have kk : ¬ 1 + (xs0.length : Int) + (xs1.length : Int) < 0 := by omega
      have BGa := BG.c0
      have BGb := BG.c1
      have BGc := BG.c2
      have BW'a := BW'.c0
      have BW'b := BW'.c1
      have BW'c := BW'.c2
      go_wp2_with fail
      refine (eqMatrix _ _ _ _ (pV (mk r0 c0 xs0 r1 c1 xs1) (mulV r0 c0 xs0 c1 xs1)) _ (Sees.of_own oG) (Sees.of_own oW)).mono ?_
      rintro e w12 ⟨rfl, hg⟩
      clear BGa BGb BGc
      clear BW'a BW'b BW'c
      have m12 := hg.size
      skip
      replace A0 := A0.kept hg (by simp)
      replace A1 := A1.kept hg (by simp)
      replace BW' := BW'.kept hg (by simp)
      replace BG := BG.kept hg (by simp)
      replace oW := own_kept oW hg
      replace oG := own_kept oG hg
      replace G0 := gbt G0 hg
      clear hg
      have hvl := mulV_len r0 c0 xs0 r1 c1 xs1
      clear kk
      have BGa := BG.c0
      have BGb := BG.c1
      have BGc := BG.c2
      go_wp2_with fail
      refine (markMatrix _ _ _ (pV (mk r0 c0 xs0 r1 c1 xs1) (mulV r0 c0 xs0 c1 xs1)).length _ _ 1 _ oG (by omega) (by decide)).mono ?_
      rintro e w13 ⟨rfl, oG', hg⟩
      clear BGa BGb BGc
      have m13 := hg.size
      skip
      replace A0 := A0.kept hg (by intro e; have := rG.out _ e.symm; omega)
      replace A1 := A1.kept hg (by intro e; have := rG.out _ e.symm; omega)
      replace BW' := BW'.kept hg (by intro e; have := rG.out _ e.symm; omega)
      replace BG := BG.kept hg (by intro e; have := rG.out _ e.symm; omega)
      replace oW := oW.kept hg (ne_of rW.out rG.out (by intro q h1 h2; omega))
      replace G0 := gb_none G0 hg (fun q e => by have := rG.out _ e; omega)
      clear hg
      clear oG
      have kq : ¬ (1 : Int) + ((pV (mk r0 c0 xs0 r1 c1 xs1) (mulV r0 c0 xs0 c1 xs1)).length : Int) < 0 := by omega
      have kn : ((1 : Int) + ((pV (mk r0 c0 xs0 r1 c1 xs1) (mulV r0 c0 xs0 c1 xs1)).length : Int) != 1 + ((pV (mk r0 c0 xs0 r1 c1 xs1) (mulV r0 c0 xs0 c1 xs1)).length : Int)) = false := by simp
      have BGa := BG.c0
      have BGb := BG.c1
      have BGc := BG.c2
      go_wp2_with fail
      refine (heldMatrix _ _ (pV (mk r0 c0 xs0 r1 c1 xs1) (mulV r0 c0 xs0 c1 xs1)).length _ 1 _ (Sees.of_own oG') (by omega) (by decide)).mono ?_
      rintro e w14 ⟨rfl, hg⟩
      clear BGa BGb BGc
      have m14 := hg.size
      skip
      replace A0 := A0.kept hg (by simp)
      replace A1 := A1.kept hg (by simp)
      replace BW' := BW'.kept hg (by simp)
      replace BG := BG.kept hg (by simp)
      replace oW := own_kept oW hg
      replace oG' := own_kept oG' hg
      replace G0 := gbt G0 hg
      clear hg
      have A0a := A0.c0
      have A0b := A0.c1
      have A0c := A0.c2
      have A1a := A1.c0
      have A1b := A1.c1
      have A1c := A1.c2
      go_wp2_with fail
      have HM : Hid (∀ w', w14.grownBy w' none → w'.cell? ⟨w.heap.size, 0, none⟩ = some (.int .i64 r0) ∧ w'.cell? ⟨w.heap.size, 1, none⟩ = some (.int .i64 c0) ∧ w'.cell? ⟨w.heap.size, 2, none⟩ = some (.slice a0 xs0.length cap0) ∧ w'.cell? ⟨w.heap.size + 1, 0, none⟩ = some (.int .i64 r1) ∧ w'.cell? ⟨w.heap.size + 1, 1, none⟩ = some (.int .i64 c1) ∧ w'.cell? ⟨w.heap.size + 1, 2, none⟩ = some (.slice a1 xs1.length cap1)) := fun w' h => ⟨(A0.kept h (by simp)).c0, (A0.kept h (by simp)).c1, (A0.kept h (by simp)).c2, (A1.kept h (by simp)).c0, (A1.kept h (by simp)).c1, (A1.kept h (by simp)).c2⟩
      go_cut [13] from 75 to 79 (fun v wx => ∃ (B : Nat) (a : Option Addr) (cap : Nat), v = .pointer (some ⟨B, 0, none⟩) ∧ Three wx B (.int .i64 (pN (mk r0 c0 xs0 r1 c1 xs1) r0)) (.int .i64 (pN (mk r0 c0 xs0 r1 c1 xs1) c1)) (.slice a (pV (mk r0 c0 xs0 r1 c1 xs1) (mulV r0 c0 xs0 c1 xs1)).length cap) ∧ wx.ownsRow w14.heap.size 3 1 (.slice a (pV (mk r0 c0 xs0 r1 c1 xs1) (mulV r0 c0 xs0 c1 xs1)).length cap) (pV (mk r0 c0 xs0 r1 c1 xs1) (mulV r0 c0 xs0 c1 xs1)).length (ints (pV (mk r0 c0 xs0 r1 c1 xs1) (mulV r0 c0 xs0 c1 xs1))) ∧ w14.grownBy wx none ∧ w14.heap.size ≤ B)
      case first =>
        go_region_held3 (fun w' => w'.cell? ⟨w.heap.size, 0, none⟩ = some (.int .i64 r0) ∧ w'.cell? ⟨w.heap.size, 1, none⟩ = some (.int .i64 c0) ∧ w'.cell? ⟨w.heap.size, 2, none⟩ = some (.slice a0 xs0.length cap0) ∧ w'.cell? ⟨w.heap.size + 1, 0, none⟩ = some (.int .i64 r1) ∧ w'.cell? ⟨w.heap.size + 1, 1, none⟩ = some (.int .i64 c1) ∧ w'.cell? ⟨w.heap.size + 1, 2, none⟩ = some (.slice a1 xs1.length cap1))
          (exact HM.out _ (by (repeat (with_reducible first | assumption | exact World.grownBy.refl _ _ | refine gbt ?_ (World.grownBy_alloc _ _ none) | refine gbt ?_ (gb_drew _ none) | refine gb_setNew ?_ (by first | omega | (simp; omega) | (simp; (first | done | fail))) _ _)); (first | done | fail)))
          (first | (go_at_call 16; (fail_if_success (have _t := s1)); (fail_if_success (have _t := s2)); refine (toMatrix _ _ _ xs0 _ (hs0.kept (gbt G0 (by (repeat (with_reducible first | assumption | exact World.grownBy.refl _ _ | refine gbt ?_ (World.grownBy_alloc _ _ none) | refine gbt ?_ (gb_drew _ none) | refine gb_setNew ?_ (by first | omega | (simp; omega) | (simp; (first | done | fail))) _ _)); (first | done | fail)))) (by omega)).mono ?_; rintro e u1 ⟨v1, rfl, o1, g1⟩; obtain ⟨a1', cap1', rfl⟩ := own_slice o1; have s1 := Sees.of_own o1; have z1 : w14.heap.size ≤ u1.heap.size := (@World.grownBy.size w14 u1 none (gbt (by (repeat (with_reducible first | assumption | exact World.grownBy.refl _ _ | refine gbt ?_ (World.grownBy_alloc _ _ none) | refine gbt ?_ (gb_drew _ none) | refine gb_setNew ?_ (by first | omega | (simp; omega) | (simp; (first | done | fail))) _ _)); (first | done | fail)) g1)); (first | (have D1 : Three u1 w14.heap.size (.int .i64 0) (.int .i64 0) (.slice none 0 0) := Three.kept (by (repeat (with_reducible first | assumption | exact Three.new _ _ _ _ _ | refine Three.alloc ?_ _ | refine Three.kept ?_ (gb_drew _ none) (by simp))); (first | done | fail)) g1 (by simp)) | skip); (have K1 : w14.grownBy u1 none := gbt (by (repeat (with_reducible first | assumption | exact World.grownBy.refl _ _ | refine gbt ?_ (World.grownBy_alloc _ _ none) | refine gbt ?_ (gb_drew _ none) | refine gb_setNew ?_ (by first | omega | (simp; omega) | (simp; (first | done | fail))) _ _)); (first | done | fail)) g1); clear o1 g1) | (go_at_call 17; refine (mulMatrices _ _ _ _ _ _ xs0 xs1 _ (by (repeat (with_reducible first | exact s3 | refine Sees.kept ?_ (World.grownBy_alloc _ _ none) | refine Sees.kept ?_ (gb_drew _ none))); (first | done | fail)) (by (repeat (with_reducible first | exact s2 | refine Sees.kept ?_ (World.grownBy_alloc _ _ none) | refine Sees.kept ?_ (gb_drew _ none))); (first | done | fail))).mono ?_; rintro e u3 ⟨a3', cap3', rfl, o3, g3⟩; have O3 := own_base o3 (b' := w14.heap.size) (@World.grownBy.size w14 _ none (by (repeat (with_reducible first | assumption | exact World.grownBy.refl _ _ | refine gbt ?_ (World.grownBy_alloc _ _ none) | refine gbt ?_ (gb_drew _ none) | refine gb_setNew ?_ (by first | omega | (simp; omega) | (simp; (first | done | fail))) _ _)); (first | done | fail))); have z3 : u2.heap.size ≤ u3.heap.size := (@World.grownBy.size u2 u3 none (gbt (by (repeat (with_reducible first | assumption | exact World.grownBy.refl _ _ | refine gbt ?_ (World.grownBy_alloc _ _ none) | refine gbt ?_ (gb_drew _ none) | refine gb_setNew ?_ (by first | omega | (simp; omega) | (simp; (first | done | fail))) _ _)); (first | done | fail)) g3)); (first | (have _t := D2; have D3 : Three u3 w14.heap.size (.int .i64 0) (.int .i64 0) (.slice none 0 0) := Three.kept (by (repeat (with_reducible first | assumption | exact Three.new _ _ _ _ _ | refine Three.alloc ?_ _ | refine Three.kept ?_ (gb_drew _ none) (by simp))); (first | done | fail)) g3 (by simp); have y3 : w14.heap.size < u2.heap.size := D2.lt; have O4 := own_base o3 (b' := u2.heap.size) (Nat.le_refl _)) | (have _t := D2; have D3 : Three u3 u1.heap.size (.int .i64 0) (.int .i64 0) (.slice none 0 0) := Three.kept (by (repeat (with_reducible first | assumption | exact Three.new _ _ _ _ _ | refine Three.alloc ?_ _ | refine Three.kept ?_ (gb_drew _ none) (by simp))); (first | done | fail)) g3 (by simp); have y3 : u1.heap.size < u2.heap.size := D2.lt; have O4 := own_base o3 (b' := u2.heap.size) (Nat.le_refl _)) | (skip; have D3 : Three u3 u2.heap.size (.int .i64 0) (.int .i64 0) (.slice none 0 0) := Three.kept (by (repeat (with_reducible first | assumption | exact Three.new _ _ _ _ _ | refine Three.alloc ?_ _ | refine Three.kept ?_ (gb_drew _ none) (by simp))); (first | done | fail)) g3 (by simp); have O4 := own_base o3 (b' := u2.heap.size + 1) (by simp; (first | done | fail))) | skip); (try (have d0 := D3.c0; have d1 := D3.c1; have d2 := D3.c2; have d3 := D3.f0; have d4 := D3.f1; have d5 := D3.f2)); (have K3 : w14.grownBy u3 none := gbt (by (repeat (with_reducible first | assumption | exact World.grownBy.refl _ _ | refine gbt ?_ (World.grownBy_alloc _ _ none) | refine gbt ?_ (gb_drew _ none) | refine gb_setNew ?_ (by first | omega | (simp; omega) | (simp; (first | done | fail))) _ _)); (first | done | fail)) g3); clear o3 g3 s2 s3 K2) | (go_at_call 16; have _t := s1; refine (toMatrix _ _ _ xs1 _ (hs1.kept (gbt G0 (by (repeat (with_reducible first | assumption | exact World.grownBy.refl _ _ | refine gbt ?_ (World.grownBy_alloc _ _ none) | refine gbt ?_ (gb_drew _ none) | refine gb_setNew ?_ (by first | omega | (simp; omega) | (simp; (first | done | fail))) _ _)); (first | done | fail)))) (by omega)).mono ?_; rintro e u2 ⟨v2, rfl, o2, g2⟩; obtain ⟨a2', cap2', rfl⟩ := own_slice o2; have s2 := Sees.of_own o2; have s3 : Sees u2 (.slice a1' xs0.length cap1') xs0 := Sees.kept (by (repeat (with_reducible first | exact s1 | refine Sees.kept ?_ (World.grownBy_alloc _ _ none) | refine Sees.kept ?_ (gb_drew _ none))); (first | done | fail)) g2; have z2 : u1.heap.size ≤ u2.heap.size := (@World.grownBy.size u1 u2 none (gbt (by (repeat (with_reducible first | assumption | exact World.grownBy.refl _ _ | refine gbt ?_ (World.grownBy_alloc _ _ none) | refine gbt ?_ (gb_drew _ none) | refine gb_setNew ?_ (by first | omega | (simp; omega) | (simp; (first | done | fail))) _ _)); (first | done | fail)) g2)); (first | (have _t := D1; have D2 : Three u2 w14.heap.size (.int .i64 0) (.int .i64 0) (.slice none 0 0) := Three.kept (by (repeat (with_reducible first | assumption | exact Three.new _ _ _ _ _ | refine Three.alloc ?_ _ | refine Three.kept ?_ (gb_drew _ none) (by simp))); (first | done | fail)) g2 (by simp)) | (have D2 : Three u2 u1.heap.size (.int .i64 0) (.int .i64 0) (.slice none 0 0) := Three.kept (by (repeat (with_reducible first | assumption | exact Three.new _ _ _ _ _ | refine Three.alloc ?_ _ | refine Three.kept ?_ (gb_drew _ none) (by simp))); (first | done | fail)) g2 (by simp)) | skip); (have K2 : w14.grownBy u2 none := gbt (by (repeat (with_reducible first | assumption | exact World.grownBy.refl _ _ | refine gbt ?_ (World.grownBy_alloc _ _ none) | refine gbt ?_ (gb_drew _ none) | refine gb_setNew ?_ (by first | omega | (simp; omega) | (simp; (first | done | fail))) _ _)); (first | done | fail)) g2); clear o2 g2 s1 K1))
        all_goals go_wp2_with fail
        all_goals go_meet
        all_goals case rel => exact ⟨_, _, _, rfl, by first | exact Three.new _ _ _ _ _ | exact (Three.set D3 _ _ _).1, by first | exact (by (repeat (with_reducible first | exact O3 | refine own_kept ?_ (World.grownBy_alloc _ _ none) | refine own_kept ?_ (gb_drew _ none))); (first | done | fail)) | exact own_base (b := u2.heap.size) (by (repeat (with_reducible first | exact O4 | refine own_kept ?_ (World.grownBy_alloc _ _ none) | refine own_kept ?_ (gb_drew _ none) | refine ownsRow_setCell_below ?_ (by first | omega | (simp; omega) | (simp; (first | done | fail))) _)); (first | done | fail)) (by omega) | exact own_base (b := u2.heap.size + 1) (by (repeat (with_reducible first | exact O4 | refine own_kept ?_ (World.grownBy_alloc _ _ none) | refine own_kept ?_ (gb_drew _ none) | refine ownsRow_setCell_below ?_ (by first | omega | (simp; omega) | (simp; (first | done | fail))) _)); (first | done | fail)) (by omega), (by (repeat (with_reducible first | assumption | exact World.grownBy.refl _ _ | refine gbt ?_ (World.grownBy_alloc _ _ none) | refine gbt ?_ (gb_drew _ none) | refine gb_setNew ?_ (by first | omega | (simp; omega) | (simp; (first | done | fail))) _ _)); (first | done | fail)), by omega⟩
      clear A0a A0b A0c
      clear A1a A1b A1c
      obtain ⟨BH, aH, capH, rfl, BH', oH, hg, hH⟩ := hcut
      clear HM
      obtain ⟨w15, rfl⟩ : ∃ x, x = wc := ⟨_, rfl⟩
      have yH := BH'.lt
      have m15 := hg.size
      replace A0 := A0.kept hg (by simp)
      replace A1 := A1.kept hg (by simp)
      replace BW' := BW'.kept hg (by simp)
      replace BG := BG.kept hg (by simp)
      replace oW := own_kept oW hg
      replace oG' := own_kept oG' hg
      replace G0 := gbt G0 hg
      clear hg
      have BH'a := BH'.c0
      have BH'b := BH'.c1
      have BH'c := BH'.c2
      have BW'a := BW'.c0
      have BW'b := BW'.c1
      have BW'c := BW'.c2
      go_wp2_with fail
      refine (eqMatrix _ _ _ _ (pV (mk r0 c0 xs0 r1 c1 xs1) (mulV r0 c0 xs0 c1 xs1)) _ (Sees.of_own oH) (Sees.of_own oW)).mono ?_
      rintro e w16 ⟨rfl, hg⟩
      clear BH'a BH'b BH'c
      clear BW'a BW'b BW'c
      have m16 := hg.size
      skip
      replace A0 := A0.kept hg (by simp)
      replace A1 := A1.kept hg (by simp)
      replace BW' := BW'.kept hg (by simp)
      replace BG := BG.kept hg (by simp)
      replace BH' := BH'.kept hg (by simp)
      replace oW := own_kept oW hg
      replace oG' := own_kept oG' hg
      replace oH := own_kept oH hg
      replace G0 := gbt G0 hg
      clear hg
      have BGa := BG.c0
      have BGb := BG.c1
      have BGc := BG.c2
      go_wp2_with fail
      refine (heldMatrix _ _ (pV (mk r0 c0 xs0 r1 c1 xs1) (mulV r0 c0 xs0 c1 xs1)).length _ 1 _ (Sees.of_own oG') (by omega) (by decide)).mono ?_
      rintro e w17 ⟨rfl, hg⟩
      clear BGa BGb BGc
      have m17 := hg.size
      skip
      replace A0 := A0.kept hg (by simp)
      replace A1 := A1.kept hg (by simp)
      replace BW' := BW'.kept hg (by simp)
      replace BG := BG.kept hg (by simp)
      replace BH' := BH'.kept hg (by simp)
      replace oW := own_kept oW hg
      replace oG' := own_kept oG' hg
      replace oH := own_kept oH hg
      replace G0 := gbt G0 hg
      clear hg
      go_wp2_with fail
      go_ret
      exact ⟨rfl, gb_below G0⟩
    · skip
      go_enter Try.func3, Try.ntmps3
      have ok0 : ¬ (1048576 - (xs0.length : Int)) < 0 := by omega
      have A0a := A0.c0
      have A0b := A0.c1
      have A0c := A0.c2
      go_wp2_with fail
      refine (szMatrix _ _ _ xs0 (1048576) (1048576 - (xs0.length : Int)) _ (hs0.kept G0) (by constructor <;> omega) (szL_ok (by omega))).mono ?_
      rintro e w1 ⟨rfl, hg⟩
      clear A0a A0b A0c
      have m1 := hg.size
      simp at m1
      replace A0 := A0.kept hg (by simp)
      replace A1 := A1.kept hg (by simp)
      replace G0 := gbt G0 hg
      clear hg
      have A1a := A1.c0
      have A1b := A1.c1
      have A1c := A1.c2
      go_wp2_with fail
      refine (szMatrix _ _ _ xs1 (1048576 - (xs0.length : Int)) (-1) _ (hs1.kept G0) (by constructor <;> omega) (szL_big (by omega))).mono ?_
      rintro e w2 ⟨rfl, hg⟩
      clear A1a A1b A1c
      have m2 := hg.size
      skip
      replace A0 := A0.kept hg (by simp)
      replace A1 := A1.kept hg (by simp)
      replace G0 := gbt G0 hg
      clear hg
      go_wp2_with fail
      go_ret
      exact ⟨rfl, gb_below G0⟩
  · skip
    go_enter Try.func3, Try.ntmps3
    have A0a := A0.c0
    have A0b := A0.c1
    have A0c := A0.c2
    go_wp2_with fail
    refine (szMatrix _ _ _ xs0 (1048576) (-1) _ (hs0.kept G0) (by constructor <;> omega) (szL_big (by omega))).mono ?_
    rintro e w1 ⟨rfl, hg⟩
    clear A0a A0b A0c
    have m1 := hg.size
    simp at m1
    replace A0 := A0.kept hg (by simp)
    replace A1 := A1.kept hg (by simp)
    replace G0 := gbt G0 hg
    clear hg
    go_wp2_with fail
    go_ret
    exact ⟨rfl, gb_below G0⟩
end Go.Proofs.Ytfnajbifdilfmaa.fnExactMulMatrices
