/- The law FnMulMatrices returns true for every code: products of matrices are products, turned they are the product of both turned matrices in the other order. Conditions: none. The walk. -/
import Derived.Test.YtfnajbifdilfmaaTwo
import Derived.Test.YtfnajbifdilfmaaMulP
import Derived.Test.YtfnajbifdilfmaaPairP
import Derived.WalkKit
import Derived.WalkLawsBesides
import Derived.WalkSpells
import Derived.Deep.RegionHeld3
import Derived.Deep.CutRange
namespace Go.Proofs.Ytfnajbifdilfmaa.fnMulMatrices
open Go Go.RowKit
set_option linter.unusedVariables false

set_option maxHeartbeats 3200000 in
theorem walk (a0 : Option Addr) (len0 cap0 : Nat) (z0 : List Int) (w : World) (w0 : IsRow .u8 w a0 len0 cap0 z0) :
    Calls Try.prog 6 #[.slice a0 len0 cap0] w fun e w' => e = .returned (.bool true) ∧ Below w.heap.size w w' := by
  by_cases hl : 1048576 < len0
  · have h1 : (1048576 : Int) < (len0 : Int) := by omega
    go_enter Try.func6, Try.ntmps6
    go_wp2
    go_ret
    exact ⟨rfl, Below.refl _ _⟩
  · have h1 : (len0 : Int) ≤ 1048576 := by omega
    go_enter Try.func6, Try.ntmps6
    go_wp2_with fail
    refine (drawMulMatrices _ _ _ _ _ w0).mono ?_
    rintro e w1 ⟨r, c, g1, cap1, xs, r', c', g2, cap2, ys, rfl, hx, hy, s1, s2, G0, _, _⟩
    have hx' : xs.length ≤ 1048576 := by omega
    have hy' : ys.length ≤ 1048576 := by omega
    have A : Three ((w1.alloc (.cells #[.int .i64 r, .int .i64 c, .slice (some ⟨g1, 0, none⟩) xs.length cap1] 26)).alloc (.cells #[.int .i64 r', .int .i64 c', .slice (some ⟨g2, 0, none⟩) ys.length cap2] 26)) w1.heap.size (.int .i64 r) (.int .i64 c) (.slice (some ⟨g1, 0, none⟩) xs.length cap1) := (Three.new w1 _ _ _ _).alloc _
    have B : Three ((w1.alloc (.cells #[.int .i64 r, .int .i64 c, .slice (some ⟨g1, 0, none⟩) xs.length cap1] 26)).alloc (.cells #[.int .i64 r', .int .i64 c', .slice (some ⟨g2, 0, none⟩) ys.length cap2] 26)) (w1.heap.size + 1) (.int .i64 r') (.int .i64 c') (.slice (some ⟨g2, 0, none⟩) ys.length cap2) := by simpa using Three.new (w1.alloc (.cells #[.int .i64 r, .int .i64 c, .slice (some ⟨g1, 0, none⟩) xs.length cap1] 26)) (.int .i64 r') (.int .i64 c') (.slice (some ⟨g2, 0, none⟩) ys.length cap2) 26
    have hgA : w1.grownBy ((w1.alloc (.cells #[.int .i64 r, .int .i64 c, .slice (some ⟨g1, 0, none⟩) xs.length cap1] 26)).alloc (.cells #[.int .i64 r', .int .i64 c', .slice (some ⟨g2, 0, none⟩) ys.length cap2] 26)) none := gbt (World.grownBy_alloc _ _ _) (World.grownBy_alloc _ _ _)
    replace G0 := gbt G0 hgA
    replace s1 := s1.kept hgA
    replace s2 := s2.kept hgA
    clear hgA
    obtain ⟨q, hq⟩ : ∃ q, q = mk r c xs r' c' ys := ⟨_, rfl⟩
    obtain ⟨R0, hR0⟩ : ∃ R0, R0 = pN q r := ⟨_, rfl⟩
    obtain ⟨C0, hC0⟩ : ∃ C0, C0 = pN q c' := ⟨_, rfl⟩
    obtain ⟨l, hll⟩ : ∃ l, l = pV q (mulV r c xs c' ys) := ⟨_, rfl⟩
    have C1 : ∀ u, Sees u (.slice (some ⟨g1, 0, none⟩) xs.length cap1) xs → Sees u (.slice (some ⟨g2, 0, none⟩) ys.length cap2) ys → Calls Try.prog 17 #[.agg #[.int .i64 r, .int .i64 c, .slice (some ⟨g1, 0, none⟩) xs.length cap1], .agg #[.int .i64 r', .int .i64 c', .slice (some ⟨g2, 0, none⟩) ys.length cap2]] u (RetM u R0 C0 l) := by intro u h h'; rw [hR0, hC0, hll, hq]; exact mulMatrices _ _ _ _ _ _ _ _ _ h h'
    have C2 : ∀ u, Sees u (.slice (some ⟨g1, 0, none⟩) xs.length cap1) xs → Sees u (.slice (some ⟨g2, 0, none⟩) ys.length cap2) ys → Calls Try.prog 15 #[.agg #[.int .i64 r, .int .i64 c, .slice (some ⟨g1, 0, none⟩) xs.length cap1], .agg #[.int .i64 r', .int .i64 c', .slice (some ⟨g2, 0, none⟩) ys.length cap2]] u (RetM u R0 C0 l) := by intro u h h'; rw [hR0, hC0, hll, hq]; exact mulMatrices_s _ _ _ _ _ _ _ _ _ h h' hx' hy'
    replace C1 := Lib.hid C1
    replace C2 := Lib.hid C2
    replace hR0 := Lib.hid hR0
    replace hC0 := Lib.hid hC0
    replace hll := Lib.hid hll
    replace hq := Lib.hid hq
    have A0 := A.c0
    have A1 := A.c1
    have A2 := A.c2
    have B0 := B.c0
    have B1 := B.c1
    have B2 := B.c2
    go_wp2_with fail
    refine (C1.out _ s1 s2).mono ?_
    rintro e w2 ⟨a5, cap5, rfl, o5, hg⟩
    clear A0 A1 A2
    clear B0 B1 B2
    have m2 := hg.size
    simp at m2
    have hgx := gbt hg (World.grownBy_alloc w2 (.cells #[.int .i64 R0, .int .i64 C0, .slice a5 l.length cap5] 26) none)
    replace A := A.kept hgx (by simp)
    replace B := B.kept hgx (by simp)
    replace s1 := s1.kept hgx
    replace s2 := s2.kept hgx
    replace G0 := gbt G0 hgx
    have s5 := (Sees.of_own o5).alloc (.cells #[.int .i64 R0, .int .i64 C0, .slice a5 l.length cap5] 26)
    have X := Three.new w2 (.int .i64 R0) (.int .i64 C0) (.slice a5 l.length cap5) 26
    clear hg hgx o5
    obtain ⟨u0, hu0⟩ : ∃ u0, u0 = w2.alloc (.cells #[.int .i64 R0, .int .i64 C0, .slice a5 l.length cap5] 26) := ⟨_, rfl⟩
    have A0 := A.c0
    have A1 := A.c1
    have A2 := A.c2
    have B0 := B.c0
    have B1 := B.c1
    have B2 := B.c2
    have X0 := X.c0
    have X1 := X.c1
    have X2 := X.c2
    go_wp2_with fail
    clear A0 A1 A2
    clear B0 B1 B2
    clear X0 X1 X2
    rw [← hu0] at A B X s1 s2 s5 G0 ⊢
    clear hu0
    have A0 := A.c0
    have A1 := A.c1
    have A2 := A.c2
    have B0 := B.c0
    have B1 := B.c1
    have B2 := B.c2
    have X0 := X.c0
    have X1 := X.c1
    have X2 := X.c2
    go_wp2_with fail
    clear A0 A1 A2
    clear B0 B1 B2
    clear X0 X1 X2
    have HM : Hid (∀ w', u0.grownBy w' none → w'.cell? ⟨w1.heap.size, 0, none⟩ = some (.int .i64 r) ∧ w'.cell? ⟨w1.heap.size, 1, none⟩ = some (.int .i64 c) ∧ w'.cell? ⟨w1.heap.size, 2, none⟩ = some (.slice (some ⟨g1, 0, none⟩) xs.length cap1) ∧ w'.cell? ⟨w1.heap.size + 1, 0, none⟩ = some (.int .i64 r') ∧ w'.cell? ⟨w1.heap.size + 1, 1, none⟩ = some (.int .i64 c') ∧ w'.cell? ⟨w1.heap.size + 1, 2, none⟩ = some (.slice (some ⟨g2, 0, none⟩) ys.length cap2) ∧ w'.cell? ⟨w2.heap.size, 0, none⟩ = some (.int .i64 R0) ∧ w'.cell? ⟨w2.heap.size, 1, none⟩ = some (.int .i64 C0) ∧ w'.cell? ⟨w2.heap.size, 2, none⟩ = some (.slice a5 l.length cap5)) := fun w' h => ⟨(A.kept h (by simp)).c0, (A.kept h (by simp)).c1, (A.kept h (by simp)).c2, (B.kept h (by simp)).c0, (B.kept h (by simp)).c1, (B.kept h (by simp)).c2, (X.kept h (by simp)).c0, (X.kept h (by simp)).c1, (X.kept h (by simp)).c2⟩
    have d1 := s1.kept (gb_drew u0 none)
    have d2 := s2.kept (gb_drew u0 none)
    have d5 := s5.kept (gb_drew u0 none)
    have K0 := gb_drew u0 none
    go_region_held3 (fun w' => w'.cell? ⟨w1.heap.size, 0, none⟩ = some (.int .i64 r) ∧ w'.cell? ⟨w1.heap.size, 1, none⟩ = some (.int .i64 c) ∧ w'.cell? ⟨w1.heap.size, 2, none⟩ = some (.slice (some ⟨g1, 0, none⟩) xs.length cap1) ∧ w'.cell? ⟨w1.heap.size + 1, 0, none⟩ = some (.int .i64 r') ∧ w'.cell? ⟨w1.heap.size + 1, 1, none⟩ = some (.int .i64 c') ∧ w'.cell? ⟨w1.heap.size + 1, 2, none⟩ = some (.slice (some ⟨g2, 0, none⟩) ys.length cap2) ∧ w'.cell? ⟨w2.heap.size, 0, none⟩ = some (.int .i64 R0) ∧ w'.cell? ⟨w2.heap.size, 1, none⟩ = some (.int .i64 C0) ∧ w'.cell? ⟨w2.heap.size, 2, none⟩ = some (.slice a5 l.length cap5))
      (exact HM.out _ (by with_reducible assumption))
      (first | (go_at_call 15; have _t := K0; refine (C2.out _ d1 d2).mono ?_; rintro e v1 ⟨b1, k1, rfl, o1, hg1⟩; have K1 := gbt K0 hg1; replace d1 := d1.kept hg1; replace d2 := d2.kept hg1; replace d5 := d5.kept hg1; have d3 := Sees.of_own o1; clear K0 hg1) | (go_at_call 26; have _t := K1; refine (sameMatrix R0 C0 _ _ _ _ d5 d3).mono ?_; rintro e v2 ⟨rfl, hg2⟩; have K2 := gbt K1 hg2; replace d1 := d1.kept hg2; replace d2 := d2.kept hg2; replace d5 := d5.kept hg2; clear K1 hg2))
    clear HM
    replace A := A.kept K2 (by simp)
    replace B := B.kept K2 (by simp)
    replace X := X.kept K2 (by simp)
    replace s1 := s1.kept K2
    replace s2 := s2.kept K2
    replace s5 := s5.kept K2
    replace G0 := gbt G0 K2
    clear K2 d1 d2 d5
    have X0 := X.c0
    cases q with
    | false =>
      obtain rfl : R0 = 0 := hR0.out
      obtain rfl : l = [] := hll.out
      have X0 := X.c0
      have X2 := X.c2
      go_wp2_with (go_at_call 27; refine (alive _).mono ?_; rintro e w' ⟨rfl, rfl⟩)
      go_ret
      exact ⟨rfl, gb_below G0⟩
    | true =>
      obtain rfl : R0 = r := hR0.out
      obtain rfl : C0 = c' := hC0.out
      obtain ⟨n1, n2, hrc⟩ := mk_iff.1 hq.out.symm
      obtain rfl : c = r' := hrc
      have hr1 := (sd_iff.1 (mv_iff.1 n1).1).1
      have hne : (R0 == 0) = false := by simp; omega
      have hml : mv R0 C0 l = true := by rw [hll.out]; exact mv_mul n1 n2
      obtain ⟨tb, htb⟩ : ∃ tb, tb = turnL ys c.toNat C0.toNat := ⟨_, rfl⟩
      obtain ⟨ta, hta⟩ : ∃ ta, ta = turnL xs R0.toNat c.toNat := ⟨_, rfl⟩
      obtain ⟨tl, htl⟩ : ∃ tl, tl = turnL l R0.toNat C0.toNat := ⟨_, rfl⟩
      have C5 : ∀ u v, Sees u v l → Calls Try.prog 28 #[.agg #[.int .i64 R0, .int .i64 C0, v]] u (RetM u C0 R0 tl) := by intro u v h; rw [htl]; exact turnMatrix_yes _ _ _ _ _ h hml
      have C6 : ∀ u v, Sees u v ys → Calls Try.prog 28 #[.agg #[.int .i64 c, .int .i64 C0, v]] u (RetM u C0 c tb) := by intro u v h; rw [htb]; exact turnMatrix_yes _ _ _ _ _ h n2
      have C7 : ∀ u v, Sees u v xs → Calls Try.prog 28 #[.agg #[.int .i64 R0, .int .i64 c, v]] u (RetM u c R0 ta) := by intro u v h; rw [hta]; exact turnMatrix_yes _ _ _ _ _ h n1
      have C8 : ∀ u v v', Sees u v tb → Sees u v' ta → Calls Try.prog 17 #[.agg #[.int .i64 C0, .int .i64 c, v], .agg #[.int .i64 c, .int .i64 R0, v']] u (RetM u C0 R0 tl) := by
        intro u v v' h h'
        have h1 := mulMatrices C0 c c R0 v v' tb ta u h h'
        have hle : l = mulV R0 c xs C0 ys := hll.out
        rw [htb, hta, mk_turned n1 n2, mul_turned n1 n2, ← hle] at h1
        rw [htl]
        exact h1
      replace C5 := Lib.hid C5
      replace C6 := Lib.hid C6
      replace C7 := Lib.hid C7
      replace C8 := Lib.hid C8
      replace n1 := Lib.hid n1
      replace n2 := Lib.hid n2
      replace hml := Lib.hid hml
      clear hq hr1 C1 C2 hR0 hC0 hll htb hta htl
      go_wp2_with fail
      clear X0
      obtain ⟨uz, huz⟩ : ∃ uz, uz = v2 := ⟨_, rfl⟩
      rw [← huz] at A B X s1 s2 s5 G0 ⊢
      clear huz
      have A0 := A.c0
      have A1 := A.c1
      have A2 := A.c2
      have B0 := B.c0
      have B1 := B.c1
      have B2 := B.c2
      go_wp2_with fail
      have HM : Hid (∀ w', uz.grownBy w' none → w'.cell? ⟨w1.heap.size, 0, none⟩ = some (.int .i64 R0) ∧ w'.cell? ⟨w1.heap.size, 1, none⟩ = some (.int .i64 c) ∧ w'.cell? ⟨w1.heap.size, 2, none⟩ = some (.slice (some ⟨g1, 0, none⟩) xs.length cap1) ∧ w'.cell? ⟨w1.heap.size + 1, 0, none⟩ = some (.int .i64 c) ∧ w'.cell? ⟨w1.heap.size + 1, 1, none⟩ = some (.int .i64 C0) ∧ w'.cell? ⟨w1.heap.size + 1, 2, none⟩ = some (.slice (some ⟨g2, 0, none⟩) ys.length cap2)) := fun w' h => ⟨(A.kept h (by simp)).c0, (A.kept h (by simp)).c1, (A.kept h (by simp)).c2, (B.kept h (by simp)).c0, (B.kept h (by simp)).c1, (B.kept h (by simp)).c2⟩
      go_cut [6] from 34 to 38 (fun v wx => ∃ (BT : Nat) (a : Option Addr) (cap : Nat), v = .pointer (some ⟨BT, 0, none⟩) ∧ Three wx BT (.int .i64 C0) (.int .i64 R0) (.slice a tl.length cap) ∧ wx.ownsRow uz.heap.size 3 1 (.slice a tl.length cap) tl.length (ints tl) ∧ uz.grownBy wx none ∧ uz.heap.size ≤ BT)
      case first =>
        go_region_held3 (fun w' => w'.cell? ⟨w1.heap.size, 0, none⟩ = some (.int .i64 R0) ∧ w'.cell? ⟨w1.heap.size, 1, none⟩ = some (.int .i64 c) ∧ w'.cell? ⟨w1.heap.size, 2, none⟩ = some (.slice (some ⟨g1, 0, none⟩) xs.length cap1) ∧ w'.cell? ⟨w1.heap.size + 1, 0, none⟩ = some (.int .i64 c) ∧ w'.cell? ⟨w1.heap.size + 1, 1, none⟩ = some (.int .i64 C0) ∧ w'.cell? ⟨w1.heap.size + 1, 2, none⟩ = some (.slice (some ⟨g2, 0, none⟩) ys.length cap2))
          (exact HM.out _ (by (repeat (with_reducible first | assumption | exact World.grownBy.refl _ _ | refine gbt ?_ (World.grownBy_alloc _ _ none) | refine gbt ?_ (gb_drew _ none) | refine gb_setNew ?_ (by first | omega | (simp; omega) | (simp; (first | done | fail))) _ _)); (first | done | fail)))
          (first | (go_at_call 28; (fail_if_success (have _t := e1)); (fail_if_success (have _t := e2)); refine (C6.out _ _ (s2.kept (by (repeat (with_reducible first | assumption | exact World.grownBy.refl _ _ | refine gbt ?_ (World.grownBy_alloc _ _ none) | refine gbt ?_ (gb_drew _ none) | refine gb_setNew ?_ (by first | omega | (simp; omega) | (simp; (first | done | fail))) _ _)); (first | done | fail)))).mono ?_; rintro e u1 ⟨a1', cap1', rfl, o1, g1⟩; have e1 := Sees.of_own o1; have z1 : uz.heap.size ≤ u1.heap.size := (@World.grownBy.size uz u1 none (gbt (by (repeat (with_reducible first | assumption | exact World.grownBy.refl _ _ | refine gbt ?_ (World.grownBy_alloc _ _ none) | refine gbt ?_ (gb_drew _ none) | refine gb_setNew ?_ (by first | omega | (simp; omega) | (simp; (first | done | fail))) _ _)); (first | done | fail)) g1)); (first | (have D1 : Three u1 uz.heap.size (.int .i64 0) (.int .i64 0) (.slice none 0 0) := Three.kept (by (repeat (with_reducible first | assumption | exact Three.new _ _ _ _ _ | refine Three.alloc ?_ _ | refine Three.kept ?_ (gb_drew _ none) (by simp))); (first | done | fail)) g1 (by simp)) | skip); (have K1 : uz.grownBy u1 none := gbt (by (repeat (with_reducible first | assumption | exact World.grownBy.refl _ _ | refine gbt ?_ (World.grownBy_alloc _ _ none) | refine gbt ?_ (gb_drew _ none) | refine gb_setNew ?_ (by first | omega | (simp; omega) | (simp; (first | done | fail))) _ _)); (first | done | fail)) g1); clear o1 g1) | (go_at_call 17; refine (C8.out _ _ _ (by (repeat (with_reducible first | exact e3 | refine Sees.kept ?_ (World.grownBy_alloc _ _ none) | refine Sees.kept ?_ (gb_drew _ none))); (first | done | fail)) (by (repeat (with_reducible first | exact e2 | refine Sees.kept ?_ (World.grownBy_alloc _ _ none) | refine Sees.kept ?_ (gb_drew _ none))); (first | done | fail))).mono ?_; rintro e u3 ⟨a3', cap3', rfl, o3, g3⟩; have O3 := own_base o3 (b' := uz.heap.size) (@World.grownBy.size uz _ none (by (repeat (with_reducible first | assumption | exact World.grownBy.refl _ _ | refine gbt ?_ (World.grownBy_alloc _ _ none) | refine gbt ?_ (gb_drew _ none) | refine gb_setNew ?_ (by first | omega | (simp; omega) | (simp; (first | done | fail))) _ _)); (first | done | fail))); have z3 : u2.heap.size ≤ u3.heap.size := (@World.grownBy.size u2 u3 none (gbt (by (repeat (with_reducible first | assumption | exact World.grownBy.refl _ _ | refine gbt ?_ (World.grownBy_alloc _ _ none) | refine gbt ?_ (gb_drew _ none) | refine gb_setNew ?_ (by first | omega | (simp; omega) | (simp; (first | done | fail))) _ _)); (first | done | fail)) g3)); (first | (have _t := D2; have D3 : Three u3 uz.heap.size (.int .i64 0) (.int .i64 0) (.slice none 0 0) := Three.kept (by (repeat (with_reducible first | assumption | exact Three.new _ _ _ _ _ | refine Three.alloc ?_ _ | refine Three.kept ?_ (gb_drew _ none) (by simp))); (first | done | fail)) g3 (by simp); have y3 : uz.heap.size < u2.heap.size := D2.lt; have O4 := own_base o3 (b' := u2.heap.size) (Nat.le_refl _)) | (have _t := D2; have D3 : Three u3 u1.heap.size (.int .i64 0) (.int .i64 0) (.slice none 0 0) := Three.kept (by (repeat (with_reducible first | assumption | exact Three.new _ _ _ _ _ | refine Three.alloc ?_ _ | refine Three.kept ?_ (gb_drew _ none) (by simp))); (first | done | fail)) g3 (by simp); have y3 : u1.heap.size < u2.heap.size := D2.lt; have O4 := own_base o3 (b' := u2.heap.size) (Nat.le_refl _)) | (skip; have D3 : Three u3 u2.heap.size (.int .i64 0) (.int .i64 0) (.slice none 0 0) := Three.kept (by (repeat (with_reducible first | assumption | exact Three.new _ _ _ _ _ | refine Three.alloc ?_ _ | refine Three.kept ?_ (gb_drew _ none) (by simp))); (first | done | fail)) g3 (by simp); have O4 := own_base o3 (b' := u2.heap.size + 1) (by simp; (first | done | fail))) | skip); (try (have d0 := D3.c0; have d1 := D3.c1; have d2 := D3.c2; have d3 := D3.f0; have d4 := D3.f1; have d5 := D3.f2)); (have K3 : uz.grownBy u3 none := gbt (by (repeat (with_reducible first | assumption | exact World.grownBy.refl _ _ | refine gbt ?_ (World.grownBy_alloc _ _ none) | refine gbt ?_ (gb_drew _ none) | refine gb_setNew ?_ (by first | omega | (simp; omega) | (simp; (first | done | fail))) _ _)); (first | done | fail)) g3); clear o3 g3 e2 e3 K2) | (go_at_call 28; have _t := e1; refine (C7.out _ _ (s1.kept (by (repeat (with_reducible first | assumption | exact World.grownBy.refl _ _ | refine gbt ?_ (World.grownBy_alloc _ _ none) | refine gbt ?_ (gb_drew _ none) | refine gb_setNew ?_ (by first | omega | (simp; omega) | (simp; (first | done | fail))) _ _)); (first | done | fail)))).mono ?_; rintro e u2 ⟨a2', cap2', rfl, o2, g2⟩; have e2 := Sees.of_own o2; have e3 : Sees u2 (.slice a1' tb.length cap1') tb := Sees.kept (by (repeat (with_reducible first | exact e1 | refine Sees.kept ?_ (World.grownBy_alloc _ _ none) | refine Sees.kept ?_ (gb_drew _ none))); (first | done | fail)) g2; have z2 : u1.heap.size ≤ u2.heap.size := (@World.grownBy.size u1 u2 none (gbt (by (repeat (with_reducible first | assumption | exact World.grownBy.refl _ _ | refine gbt ?_ (World.grownBy_alloc _ _ none) | refine gbt ?_ (gb_drew _ none) | refine gb_setNew ?_ (by first | omega | (simp; omega) | (simp; (first | done | fail))) _ _)); (first | done | fail)) g2)); (first | (have _t := D1; have D2 : Three u2 uz.heap.size (.int .i64 0) (.int .i64 0) (.slice none 0 0) := Three.kept (by (repeat (with_reducible first | assumption | exact Three.new _ _ _ _ _ | refine Three.alloc ?_ _ | refine Three.kept ?_ (gb_drew _ none) (by simp))); (first | done | fail)) g2 (by simp)) | (have D2 : Three u2 u1.heap.size (.int .i64 0) (.int .i64 0) (.slice none 0 0) := Three.kept (by (repeat (with_reducible first | assumption | exact Three.new _ _ _ _ _ | refine Three.alloc ?_ _ | refine Three.kept ?_ (gb_drew _ none) (by simp))); (first | done | fail)) g2 (by simp)) | skip); (have K2 : uz.grownBy u2 none := gbt (by (repeat (with_reducible first | assumption | exact World.grownBy.refl _ _ | refine gbt ?_ (World.grownBy_alloc _ _ none) | refine gbt ?_ (gb_drew _ none) | refine gb_setNew ?_ (by first | omega | (simp; omega) | (simp; (first | done | fail))) _ _)); (first | done | fail)) g2); clear o2 g2 e1 K1))
        all_goals go_wp2_with fail
        all_goals go_meet
        all_goals case rel => exact ⟨_, _, _, rfl, by first | exact Three.new _ _ _ _ _ | exact (Three.set D3 _ _ _).1, by first | exact (by (repeat (with_reducible first | exact O3 | refine own_kept ?_ (World.grownBy_alloc _ _ none) | refine own_kept ?_ (gb_drew _ none))); (first | done | fail)) | exact own_base (b := u2.heap.size) (by (repeat (with_reducible first | exact O4 | refine own_kept ?_ (World.grownBy_alloc _ _ none) | refine own_kept ?_ (gb_drew _ none) | refine ownsRow_setCell_below ?_ (by first | omega | (simp; omega) | (simp; (first | done | fail))) _)); (first | done | fail)) (by omega) | exact own_base (b := u2.heap.size + 1) (by (repeat (with_reducible first | exact O4 | refine own_kept ?_ (World.grownBy_alloc _ _ none) | refine own_kept ?_ (gb_drew _ none) | refine ownsRow_setCell_below ?_ (by first | omega | (simp; omega) | (simp; (first | done | fail))) _)); (first | done | fail)) (by omega), (by (repeat (with_reducible first | assumption | exact World.grownBy.refl _ _ | refine gbt ?_ (World.grownBy_alloc _ _ none) | refine gbt ?_ (gb_drew _ none) | refine gb_setNew ?_ (by first | omega | (simp; omega) | (simp; (first | done | fail))) _ _)); (first | done | fail)), by omega⟩
      clear A0 A1 A2
      clear B0 B1 B2
      obtain ⟨BT, aT, capT, rfl, T, oT, hg, hT⟩ := hcut
      clear HM
      replace A := A.kept hg (by simp)
      replace B := B.kept hg (by simp)
      replace X := X.kept hg (by simp)
      replace s1 := s1.kept hg
      replace s2 := s2.kept hg
      replace s5 := s5.kept hg
      replace G0 := gbt G0 hg
      have dT := (Sees.of_own oT).kept (gb_drew wc none)
      clear hg oT
      have A0 := A.c0
      have A1 := A.c1
      have A2 := A.c2
      have B0 := B.c0
      have B1 := B.c1
      have B2 := B.c2
      have X0 := X.c0
      have X1 := X.c1
      have X2 := X.c2
      have T0 := T.c0
      have T1 := T.c1
      have T2 := T.c2
      go_wp2_with fail
      clear A0 A1 A2
      clear B0 B1 B2
      clear X0 X1 X2
      clear T0 T1 T2
      have HM : Hid (∀ w', wc.grownBy w' none → w'.cell? ⟨w1.heap.size, 0, none⟩ = some (.int .i64 R0) ∧ w'.cell? ⟨w1.heap.size, 1, none⟩ = some (.int .i64 c) ∧ w'.cell? ⟨w1.heap.size, 2, none⟩ = some (.slice (some ⟨g1, 0, none⟩) xs.length cap1) ∧ w'.cell? ⟨w1.heap.size + 1, 0, none⟩ = some (.int .i64 c) ∧ w'.cell? ⟨w1.heap.size + 1, 1, none⟩ = some (.int .i64 C0) ∧ w'.cell? ⟨w1.heap.size + 1, 2, none⟩ = some (.slice (some ⟨g2, 0, none⟩) ys.length cap2) ∧ w'.cell? ⟨w2.heap.size, 0, none⟩ = some (.int .i64 R0) ∧ w'.cell? ⟨w2.heap.size, 1, none⟩ = some (.int .i64 C0) ∧ w'.cell? ⟨w2.heap.size, 2, none⟩ = some (.slice a5 l.length cap5) ∧ w'.cell? ⟨BT, 0, none⟩ = some (.int .i64 C0) ∧ w'.cell? ⟨BT, 1, none⟩ = some (.int .i64 R0) ∧ w'.cell? ⟨BT, 2, none⟩ = some (.slice aT tl.length capT)) := fun w' h => ⟨(A.kept h (by simp)).c0, (A.kept h (by simp)).c1, (A.kept h (by simp)).c2, (B.kept h (by simp)).c0, (B.kept h (by simp)).c1, (B.kept h (by simp)).c2, (X.kept h (by simp)).c0, (X.kept h (by simp)).c1, (X.kept h (by simp)).c2, (T.kept h (by simp)).c0, (T.kept h (by simp)).c1, (T.kept h (by simp)).c2⟩
      have d1 := s1.kept (gb_drew wc none)
      have d2 := s2.kept (gb_drew wc none)
      have d5 := s5.kept (gb_drew wc none)
      have K0 := gb_drew wc none
      go_region_held3 (fun w' => w'.cell? ⟨w1.heap.size, 0, none⟩ = some (.int .i64 R0) ∧ w'.cell? ⟨w1.heap.size, 1, none⟩ = some (.int .i64 c) ∧ w'.cell? ⟨w1.heap.size, 2, none⟩ = some (.slice (some ⟨g1, 0, none⟩) xs.length cap1) ∧ w'.cell? ⟨w1.heap.size + 1, 0, none⟩ = some (.int .i64 c) ∧ w'.cell? ⟨w1.heap.size + 1, 1, none⟩ = some (.int .i64 C0) ∧ w'.cell? ⟨w1.heap.size + 1, 2, none⟩ = some (.slice (some ⟨g2, 0, none⟩) ys.length cap2) ∧ w'.cell? ⟨w2.heap.size, 0, none⟩ = some (.int .i64 R0) ∧ w'.cell? ⟨w2.heap.size, 1, none⟩ = some (.int .i64 C0) ∧ w'.cell? ⟨w2.heap.size, 2, none⟩ = some (.slice a5 l.length cap5) ∧ w'.cell? ⟨BT, 0, none⟩ = some (.int .i64 C0) ∧ w'.cell? ⟨BT, 1, none⟩ = some (.int .i64 R0) ∧ w'.cell? ⟨BT, 2, none⟩ = some (.slice aT tl.length capT))
        (exact HM.out _ (by with_reducible assumption))
        (first | (go_at_call 29; have _t := K0; refine (mvq true _ _ _ _ _ d5 hml.out).mono ?_; rintro e v1 ⟨rfl, hg1⟩; have K1 := gbt K0 hg1; replace d1 := d1.kept hg1; replace d2 := d2.kept hg1; replace d5 := d5.kept hg1; replace dT := dT.kept hg1; clear K0 hg1) | (go_at_call 28; have _t := K1; refine (C5.out _ _ d5).mono ?_; rintro e v2 ⟨b2, k2, rfl, o2, hg2⟩; have K2 := gbt K1 hg2; replace d1 := d1.kept hg2; replace d2 := d2.kept hg2; replace d5 := d5.kept hg2; have d3 := Sees.of_own o2; replace dT := dT.kept hg2; clear K1 hg2) | (go_at_call 26; have _t := K2; refine (sameMatrix C0 R0 _ _ _ _ d3 dT).mono ?_; rintro e v3 ⟨rfl, hg3⟩; have K3 := gbt K2 hg3; replace d1 := d1.kept hg3; replace d2 := d2.kept hg3; replace d5 := d5.kept hg3; clear K2 hg3))
      go_wp2_with fail
      go_ret
      exact ⟨rfl, gb_below (gbt G0 K3)⟩
end Go.Proofs.Ytfnajbifdilfmaa.fnMulMatrices
