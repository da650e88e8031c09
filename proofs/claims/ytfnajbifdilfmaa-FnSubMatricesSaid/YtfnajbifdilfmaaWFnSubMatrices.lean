/- The law FnSubMatrices returns true for every code: differences of matrices are differences, adding leads back. Conditions: none. The walk. -/
import Derived.Test.YtfnajbifdilfmaaTwo
import Derived.Test.YtfnajbifdilfmaaPairP
import Derived.WalkKit
import Derived.WalkLawsBesides
import Derived.WalkSpells
import Derived.Deep.RegionHeld3
namespace Go.Proofs.Ytfnajbifdilfmaa.fnSubMatrices
open Go Go.RowKit
set_option linter.unusedVariables false

set_option maxHeartbeats 3200000 in
theorem walk (a0 : Option Addr) (len0 cap0 : Nat) (z0 : List Int) (w : World) (w0 : IsRow .u8 w a0 len0 cap0 z0) :
    Calls Try.prog 8 #[.slice a0 len0 cap0] w fun e w' => e = .returned (.bool true) ∧ Below w.heap.size w w' := by
  by_cases hl : 1048576 < len0
  · have h1 : (1048576 : Int) < (len0 : Int) := by omega
    go_enter Try.func8, Try.ntmps8
    go_wp2
    go_ret
    exact ⟨rfl, Below.refl _ _⟩
  · have h1 : (len0 : Int) ≤ 1048576 := by omega
    go_enter Try.func8, Try.ntmps8
    go_wp2_with fail
    refine (drawSubMatrices _ _ _ _ _ w0).mono ?_
    rintro e w1 ⟨r, c, g1, cap1, xs, r', c', g2, cap2, ys, rfl, hx, hy, s1, s2, G0, _, _⟩
    have hx' : xs.length ≤ 1048576 := by omega
    have hy' : ys.length ≤ 1048576 := by omega
    have A : Three ((w1.alloc (.cells #[.int .i64 r, .int .i64 c, .slice (some ⟨g1, 0, none⟩) xs.length cap1] 26)).alloc (.cells #[.int .i64 r', .int .i64 c', .slice (some ⟨g2, 0, none⟩) ys.length cap2] 26)) w1.heap.size (.int .i64 r) (.int .i64 c) (.slice (some ⟨g1, 0, none⟩) xs.length cap1) := (Three.new w1 _ _ _ _).alloc _
    have B : Three ((w1.alloc (.cells #[.int .i64 r, .int .i64 c, .slice (some ⟨g1, 0, none⟩) xs.length cap1] 26)).alloc (.cells #[.int .i64 r', .int .i64 c', .slice (some ⟨g2, 0, none⟩) ys.length cap2] 26)) (w1.heap.size + 1) (.int .i64 r') (.int .i64 c') (.slice (some ⟨g2, 0, none⟩) ys.length cap2) := by simpa using Three.new (w1.alloc (.cells #[.int .i64 r, .int .i64 c, .slice (some ⟨g1, 0, none⟩) xs.length cap1] 26)) (.int .i64 r') (.int .i64 c') (.slice (some ⟨g2, 0, none⟩) ys.length cap2) 26
    have hgA : w1.grownBy ((w1.alloc (.cells #[.int .i64 r, .int .i64 c, .slice (some ⟨g1, 0, none⟩) xs.length cap1] 26)).alloc (.cells #[.int .i64 r', .int .i64 c', .slice (some ⟨g2, 0, none⟩) ys.length cap2] 26)) none := gbt (World.grownBy_alloc _ _ _) (World.grownBy_alloc _ _ _)
    replace G0 := gbt G0 hgA
    replace s1 := s1.kept hgA
    replace s2 := s2.kept hgA
    clear hgA
    obtain ⟨q, hq⟩ : ∃ q, q = lk r c xs r' c' ys := ⟨_, rfl⟩
    obtain ⟨R0, hR0⟩ : ∃ R0, R0 = pN q r := ⟨_, rfl⟩
    obtain ⟨C0, hC0⟩ : ∃ C0, C0 = pN q c := ⟨_, rfl⟩
    obtain ⟨l, hll⟩ : ∃ l, l = pV q (subL xs ys) := ⟨_, rfl⟩
    have C1 : ∀ u, Sees u (.slice (some ⟨g1, 0, none⟩) xs.length cap1) xs → Sees u (.slice (some ⟨g2, 0, none⟩) ys.length cap2) ys → Calls Try.prog 24 #[.agg #[.int .i64 r, .int .i64 c, .slice (some ⟨g1, 0, none⟩) xs.length cap1], .agg #[.int .i64 r', .int .i64 c', .slice (some ⟨g2, 0, none⟩) ys.length cap2]] u (RetM u R0 C0 l) := by intro u h h'; rw [hR0, hC0, hll, hq]; exact subMatrices _ _ _ _ _ _ _ _ _ h h'
    have C2 : ∀ u, Sees u (.slice (some ⟨g1, 0, none⟩) xs.length cap1) xs → Sees u (.slice (some ⟨g2, 0, none⟩) ys.length cap2) ys → Calls Try.prog 23 #[.agg #[.int .i64 r, .int .i64 c, .slice (some ⟨g1, 0, none⟩) xs.length cap1], .agg #[.int .i64 r', .int .i64 c', .slice (some ⟨g2, 0, none⟩) ys.length cap2]] u (RetM u R0 C0 l) := by intro u h h'; rw [hR0, hC0, hll, hq]; exact subMatrices_s _ _ _ _ _ _ _ _ _ h h' hx' hy'
    replace C1 := Lib.hid C1
    replace C2 := Lib.hid C2
    replace hR0 := Lib.hid hR0
    replace hC0 := Lib.hid hC0
    replace hll := Lib.hid hll
    replace hq := Lib.hid hq
    have A0 := A.c0
    have A1 := A.c1
    have A2 := A.c2
    have B0 := B.c0
    have B1 := B.c1
    have B2 := B.c2
    go_wp2_with fail
    refine (C1.out _ s1 s2).mono ?_
    rintro e w2 ⟨a5, cap5, rfl, o5, hg⟩
    clear A0 A1 A2
    clear B0 B1 B2
    have m2 := hg.size
    simp at m2
    have hgx := gbt hg (World.grownBy_alloc w2 (.cells #[.int .i64 R0, .int .i64 C0, .slice a5 l.length cap5] 26) none)
    replace A := A.kept hgx (by simp)
    replace B := B.kept hgx (by simp)
    replace s1 := s1.kept hgx
    replace s2 := s2.kept hgx
    replace G0 := gbt G0 hgx
    have s5 := (Sees.of_own o5).alloc (.cells #[.int .i64 R0, .int .i64 C0, .slice a5 l.length cap5] 26)
    have X := Three.new w2 (.int .i64 R0) (.int .i64 C0) (.slice a5 l.length cap5) 26
    clear hg hgx o5
    obtain ⟨u0, hu0⟩ : ∃ u0, u0 = w2.alloc (.cells #[.int .i64 R0, .int .i64 C0, .slice a5 l.length cap5] 26) := ⟨_, rfl⟩
    have A0 := A.c0
    have A1 := A.c1
    have A2 := A.c2
    have B0 := B.c0
    have B1 := B.c1
    have B2 := B.c2
    have X0 := X.c0
    have X1 := X.c1
    have X2 := X.c2
    go_wp2_with fail
    clear A0 A1 A2
    clear B0 B1 B2
    clear X0 X1 X2
    rw [← hu0] at A B X s1 s2 s5 G0 ⊢
    clear hu0
    have A0 := A.c0
    have A1 := A.c1
    have A2 := A.c2
    have B0 := B.c0
    have B1 := B.c1
    have B2 := B.c2
    have X0 := X.c0
    have X1 := X.c1
    have X2 := X.c2
    go_wp2_with fail
    clear A0 A1 A2
    clear B0 B1 B2
    clear X0 X1 X2
    have HM : Hid (∀ w', u0.grownBy w' none → w'.cell? ⟨w1.heap.size, 0, none⟩ = some (.int .i64 r) ∧ w'.cell? ⟨w1.heap.size, 1, none⟩ = some (.int .i64 c) ∧ w'.cell? ⟨w1.heap.size, 2, none⟩ = some (.slice (some ⟨g1, 0, none⟩) xs.length cap1) ∧ w'.cell? ⟨w1.heap.size + 1, 0, none⟩ = some (.int .i64 r') ∧ w'.cell? ⟨w1.heap.size + 1, 1, none⟩ = some (.int .i64 c') ∧ w'.cell? ⟨w1.heap.size + 1, 2, none⟩ = some (.slice (some ⟨g2, 0, none⟩) ys.length cap2) ∧ w'.cell? ⟨w2.heap.size, 0, none⟩ = some (.int .i64 R0) ∧ w'.cell? ⟨w2.heap.size, 1, none⟩ = some (.int .i64 C0) ∧ w'.cell? ⟨w2.heap.size, 2, none⟩ = some (.slice a5 l.length cap5)) := fun w' h => ⟨(A.kept h (by simp)).c0, (A.kept h (by simp)).c1, (A.kept h (by simp)).c2, (B.kept h (by simp)).c0, (B.kept h (by simp)).c1, (B.kept h (by simp)).c2, (X.kept h (by simp)).c0, (X.kept h (by simp)).c1, (X.kept h (by simp)).c2⟩
    have d1 := s1.kept (gb_drew u0 none)
    have d2 := s2.kept (gb_drew u0 none)
    have d5 := s5.kept (gb_drew u0 none)
    have K0 := gb_drew u0 none
    go_region_held3 (fun w' => w'.cell? ⟨w1.heap.size, 0, none⟩ = some (.int .i64 r) ∧ w'.cell? ⟨w1.heap.size, 1, none⟩ = some (.int .i64 c) ∧ w'.cell? ⟨w1.heap.size, 2, none⟩ = some (.slice (some ⟨g1, 0, none⟩) xs.length cap1) ∧ w'.cell? ⟨w1.heap.size + 1, 0, none⟩ = some (.int .i64 r') ∧ w'.cell? ⟨w1.heap.size + 1, 1, none⟩ = some (.int .i64 c') ∧ w'.cell? ⟨w1.heap.size + 1, 2, none⟩ = some (.slice (some ⟨g2, 0, none⟩) ys.length cap2) ∧ w'.cell? ⟨w2.heap.size, 0, none⟩ = some (.int .i64 R0) ∧ w'.cell? ⟨w2.heap.size, 1, none⟩ = some (.int .i64 C0) ∧ w'.cell? ⟨w2.heap.size, 2, none⟩ = some (.slice a5 l.length cap5))
      (exact HM.out _ (by with_reducible assumption))
      (first | (go_at_call 23; have _t := K0; refine (C2.out _ d1 d2).mono ?_; rintro e v1 ⟨b1, k1, rfl, o1, hg1⟩; have K1 := gbt K0 hg1; replace d1 := d1.kept hg1; replace d2 := d2.kept hg1; replace d5 := d5.kept hg1; have d3 := Sees.of_own o1; clear K0 hg1) | (go_at_call 26; have _t := K1; refine (sameMatrix R0 C0 _ _ _ _ d5 d3).mono ?_; rintro e v2 ⟨rfl, hg2⟩; have K2 := gbt K1 hg2; replace d1 := d1.kept hg2; replace d2 := d2.kept hg2; replace d5 := d5.kept hg2; clear K1 hg2))
    clear HM
    replace A := A.kept K2 (by simp)
    replace B := B.kept K2 (by simp)
    replace X := X.kept K2 (by simp)
    replace s1 := s1.kept K2
    replace s2 := s2.kept K2
    replace s5 := s5.kept K2
    replace G0 := gbt G0 K2
    clear K2 d1 d2 d5
    have X0 := X.c0
    cases q with
    | false =>
      obtain rfl : R0 = 0 := hR0.out
      obtain rfl : l = [] := hll.out
      have X0 := X.c0
      have X2 := X.c2
      go_wp2_with (go_at_call 27; refine (alive _).mono ?_; rintro e w' ⟨rfl, rfl⟩)
      go_ret
      exact ⟨rfl, gb_below G0⟩
    | true =>
      obtain rfl : R0 = r := hR0.out
      obtain rfl : C0 = c := hC0.out
      obtain rfl : l = subL xs ys := hll.out
      obtain ⟨hlen, hr1, _, _⟩ := lk_len hq.out.symm
      have hne : (R0 == 0) = false := by simp; omega
      have hQ : Hid (lk R0 C0 xs r' c' ys = true) := hq.out.symm
      clear hq hlen hr1 C1 C2 hR0 hC0 hll
      go_wp2_with fail
      clear X0
      obtain ⟨uz, huz⟩ : ∃ uz, uz = v2 := ⟨_, rfl⟩
      rw [← huz] at A B X s1 s2 s5 G0 ⊢
      clear huz
      have A0 := A.c0
      have A1 := A.c1
      have A2 := A.c2
      have B0 := B.c0
      have B1 := B.c1
      have B2 := B.c2
      have X0 := X.c0
      have X1 := X.c1
      have X2 := X.c2
      go_wp2_with fail
      clear A0 A1 A2
      clear B0 B1 B2
      clear X0 X1 X2
      have HM : Hid (∀ w', uz.grownBy w' none → w'.cell? ⟨w1.heap.size, 0, none⟩ = some (.int .i64 R0) ∧ w'.cell? ⟨w1.heap.size, 1, none⟩ = some (.int .i64 C0) ∧ w'.cell? ⟨w1.heap.size, 2, none⟩ = some (.slice (some ⟨g1, 0, none⟩) xs.length cap1) ∧ w'.cell? ⟨w1.heap.size + 1, 0, none⟩ = some (.int .i64 r') ∧ w'.cell? ⟨w1.heap.size + 1, 1, none⟩ = some (.int .i64 c') ∧ w'.cell? ⟨w1.heap.size + 1, 2, none⟩ = some (.slice (some ⟨g2, 0, none⟩) ys.length cap2) ∧ w'.cell? ⟨w2.heap.size, 0, none⟩ = some (.int .i64 R0) ∧ w'.cell? ⟨w2.heap.size, 1, none⟩ = some (.int .i64 C0) ∧ w'.cell? ⟨w2.heap.size, 2, none⟩ = some (.slice a5 (subL xs ys).length cap5)) := fun w' h => ⟨(A.kept h (by simp)).c0, (A.kept h (by simp)).c1, (A.kept h (by simp)).c2, (B.kept h (by simp)).c0, (B.kept h (by simp)).c1, (B.kept h (by simp)).c2, (X.kept h (by simp)).c0, (X.kept h (by simp)).c1, (X.kept h (by simp)).c2⟩
      have d1 := s1.kept (gb_drew uz none)
      have d2 := s2.kept (gb_drew uz none)
      have d5 := s5.kept (gb_drew uz none)
      have K0 := gb_drew uz none
      go_region_held3 (fun w' => w'.cell? ⟨w1.heap.size, 0, none⟩ = some (.int .i64 R0) ∧ w'.cell? ⟨w1.heap.size, 1, none⟩ = some (.int .i64 C0) ∧ w'.cell? ⟨w1.heap.size, 2, none⟩ = some (.slice (some ⟨g1, 0, none⟩) xs.length cap1) ∧ w'.cell? ⟨w1.heap.size + 1, 0, none⟩ = some (.int .i64 r') ∧ w'.cell? ⟨w1.heap.size + 1, 1, none⟩ = some (.int .i64 c') ∧ w'.cell? ⟨w1.heap.size + 1, 2, none⟩ = some (.slice (some ⟨g2, 0, none⟩) ys.length cap2) ∧ w'.cell? ⟨w2.heap.size, 0, none⟩ = some (.int .i64 R0) ∧ w'.cell? ⟨w2.heap.size, 1, none⟩ = some (.int .i64 C0) ∧ w'.cell? ⟨w2.heap.size, 2, none⟩ = some (.slice a5 (subL xs ys).length cap5))
        (exact HM.out _ (by with_reducible assumption))
        (first | (go_at_call 22; have _t := K0; refine (sub_back _ _ _ _ _ _ xs ys _ hQ.out d5 d2).mono ?_; rintro e v1 ⟨b1, k1, rfl, o1, hg1⟩; have K1 := gbt K0 hg1; replace d1 := d1.kept hg1; replace d2 := d2.kept hg1; replace d5 := d5.kept hg1; have d3 := Sees.of_own o1; clear K0 hg1) | (go_at_call 26; have _t := K1; refine (sameMatrix R0 C0 _ _ _ _ d3 d1).mono ?_; rintro e v2 ⟨rfl, hg2⟩; have K2 := gbt K1 hg2; replace d1 := d1.kept hg2; replace d2 := d2.kept hg2; replace d5 := d5.kept hg2; clear K1 hg2))
      go_wp2_with fail
      go_ret
      exact ⟨rfl, gb_below (gbt G0 K2)⟩
end Go.Proofs.Ytfnajbifdilfmaa.fnSubMatrices
