/- The law FnJoinMatrix returns true for every code: joined matrices are sums, exchanged shares are joined to the same. Conditions: none. The walk. -/
import Derived.Test.YtfnajbifdilfmaaSDraw
import Derived.Test.YtfnajbifdilfmaaJoin
import Derived.WalkKit
import Derived.WalkLawsBesides
import Derived.WalkSpells
import Derived.Deep.RegionHeld3
namespace Go.Proofs.Ytfnajbifdilfmaa.fnJoinMatrix
open Go Go.RowKit
set_option linter.unusedVariables false

set_option maxHeartbeats 1600000 in
theorem walk (a0 : Option Addr) (len0 cap0 : Nat) (z0 : List Int) (w : World) (w0 : IsRow .u8 w a0 len0 cap0 z0) :
    Calls Try.prog 11 #[.slice a0 len0 cap0] w fun e w' => e = .returned (.bool true) ∧ Below w.heap.size w w' := by
  by_cases hl : 1048576 < len0
  · have h1 : (1048576 : Int) < (len0 : Int) := by omega
    go_enter Try.func11, Try.ntmps11
    go_wp2
    go_ret
    exact ⟨rfl, Below.refl _ _⟩
  · have h1 : (len0 : Int) ≤ 1048576 := by omega
    go_enter Try.func11, Try.ntmps11
    go_wp2_with fail
    refine (drawJoinMatrix _ _ _ _ _ w0).mono ?_
    rintro e w1 ⟨r1, c1, a1, cap1, x1, r2, c2, a2, cap2, x2, rfl, k1, k2, s1, s2, G0⟩
    have hx' : x1.length ≤ 1048576 := by omega
    have hy' : x2.length ≤ 1048576 := by omega
    have X := Six.new w1 (.int .i64 r1) (.int .i64 c1) (.slice a1 x1.length cap1) (.int .i64 r2) (.int .i64 c2) (.slice a2 x2.length cap2) 40
    replace G0 := gbt G0 (World.grownBy_alloc w1 (.cells #[.int .i64 r1, .int .i64 c1, .slice a1 x1.length cap1, .int .i64 r2, .int .i64 c2, .slice a2 x2.length cap2] 40) none)
    replace s1 := s1.alloc (.cells #[.int .i64 r1, .int .i64 c1, .slice a1 x1.length cap1, .int .i64 r2, .int .i64 c2, .slice a2 x2.length cap2] 40)
    replace s2 := s2.alloc (.cells #[.int .i64 r1, .int .i64 c1, .slice a1 x1.length cap1, .int .i64 r2, .int .i64 c2, .slice a2 x2.length cap2] 40)
    obtain ⟨q, hq⟩ : ∃ q, q = lk r1 c1 x1 r2 c2 x2 := ⟨_, rfl⟩
    obtain ⟨R0, hR0⟩ : ∃ R0, R0 = pN q r1 := ⟨_, rfl⟩
    obtain ⟨C0, hC0⟩ : ∃ C0, C0 = pN q c1 := ⟨_, rfl⟩
    obtain ⟨l, hll⟩ : ∃ l, l = pV q (addL x1 x2) := ⟨_, rfl⟩
    have C1 : ∀ u, Sees u (.slice a1 x1.length cap1) x1 → Sees u (.slice a2 x2.length cap2) x2 → Calls Try.prog 35 #[.agg #[.int .i64 r1, .int .i64 c1, .slice a1 x1.length cap1, .int .i64 r2, .int .i64 c2, .slice a2 x2.length cap2]] u (RetM u R0 C0 l) := by intro u h h'; rw [hR0, hC0, hll, hq]; exact joinMatrix _ _ _ _ _ _ _ _ _ h h'
    have C2 : ∀ u, Sees u (.slice a1 x1.length cap1) x1 → Sees u (.slice a2 x2.length cap2) x2 → Calls Try.prog 37 #[.agg #[.int .i64 r1, .int .i64 c1, .slice a1 x1.length cap1, .int .i64 r2, .int .i64 c2, .slice a2 x2.length cap2]] u (RetM u R0 C0 l) := by intro u h h'; rw [hR0, hC0, hll, hq]; exact joinMatrix_s _ _ _ _ _ _ _ _ _ h h' hx' hy'
    have C3 : ∀ u, Sees u (.slice a1 x1.length cap1) x1 → Sees u (.slice a2 x2.length cap2) x2 → Calls Try.prog 35 #[.agg #[.int .i64 r2, .int .i64 c2, .slice a2 x2.length cap2, .int .i64 r1, .int .i64 c1, .slice a1 x1.length cap1]] u (RetM u R0 C0 l) := by
      intro u h h'
      have h1 := joinMatrix r2 c2 r1 c1 (.slice a2 x2.length cap2) (.slice a1 x1.length cap1) x2 x1 u h' h
      rw [lk_comm, ← hq] at h1
      rw [hR0, hC0, hll]
      cases hqq : q with
      | false => rw [hqq] at h1; exact h1
      | true =>
        rw [hqq] at h1 hq
        obtain ⟨_, _, e1, e2⟩ := lk_iff.1 hq.symm
        rw [addL_comm x2 x1] at h1
        rw [e1, e2]
        rw [e1, e2] at h1
        exact h1
    have hr0 : q = true → (R0 == 0) = false ∧ mv R0 C0 l = true := by
      intro hqq
      rw [hqq] at hq
      obtain ⟨m1, m2, e1, e2⟩ := lk_iff.1 hq.symm
      rw [← e1, ← e2] at m2
      have h1 := (sd_iff.1 (mv_iff.1 m1).1).1
      have e3 : R0 = r1 := by rw [hR0, hqq]; rfl
      have e4 : C0 = c1 := by rw [hC0, hqq]; rfl
      have e5 : l = addL x1 x2 := by rw [hll, hqq]; rfl
      rw [e3, e4, e5]
      exact ⟨by simp; omega, mv_zip addr_rv m1 m2⟩
    replace C1 := Lib.hid C1
    replace C2 := Lib.hid C2
    replace C3 := Lib.hid C3
    replace hr0 := Lib.hid hr0
    replace hR0 := Lib.hid hR0
    clear hq hC0 hll
    obtain ⟨p0, p1, p2, p3, p4, p5, _, _, _, _, _, _⟩ := id X
    go_wp2_with fail
    refine (C1.out _ s1 s2).mono ?_
    rintro e w2 ⟨a4, cap4, rfl, o4, hg⟩
    clear p0 p1 p2 p3 p4 p5
    have hgx := gbt hg (World.grownBy_alloc w2 (.cells #[.int .i64 R0, .int .i64 C0, .slice a4 l.length cap4] 26) none)
    have M := Three.new w2 (.int .i64 R0) (.int .i64 C0) (.slice a4 l.length cap4) 26
    have s4 := (Sees.of_own o4).alloc (.cells #[.int .i64 R0, .int .i64 C0, .slice a4 l.length cap4] 26)
    clear hg o4
    replace X := X.kept hgx (by simp)
    replace s1 := s1.kept hgx
    replace s2 := s2.kept hgx
    replace G0 := gbt G0 hgx
    clear hgx
    obtain ⟨u0, hu0⟩ : ∃ u0, u0 = w2.alloc (.cells #[.int .i64 R0, .int .i64 C0, .slice a4 l.length cap4] 26) := ⟨_, rfl⟩
    obtain ⟨p0, p1, p2, p3, p4, p5, _, _, _, _, _, _⟩ := id X
    have m0 := M.c0
    have m1 := M.c1
    have m2 := M.c2
    go_wp2_with fail
    clear p0 p1 p2 p3 p4 p5 m0 m1 m2
    rw [← hu0] at X M s1 s2 s4 G0 ⊢
    clear hu0
    have HM : Hid (∀ w', u0.grownBy w' none → w'.cell? ⟨w1.heap.size, 0, none⟩ = some (.int .i64 r1) ∧ w'.cell? ⟨w1.heap.size, 1, none⟩ = some (.int .i64 c1) ∧ w'.cell? ⟨w1.heap.size, 2, none⟩ = some (.slice a1 x1.length cap1) ∧ w'.cell? ⟨w1.heap.size, 3, none⟩ = some (.int .i64 r2) ∧ w'.cell? ⟨w1.heap.size, 4, none⟩ = some (.int .i64 c2) ∧ w'.cell? ⟨w1.heap.size, 5, none⟩ = some (.slice a2 x2.length cap2) ∧ w'.cell? ⟨w2.heap.size, 0, none⟩ = some (.int .i64 R0) ∧ w'.cell? ⟨w2.heap.size, 1, none⟩ = some (.int .i64 C0) ∧ w'.cell? ⟨w2.heap.size, 2, none⟩ = some (.slice a4 l.length cap4)) := fun w' h => ⟨(X.kept h (by simp)).c0, (X.kept h (by simp)).c1, (X.kept h (by simp)).c2, (X.kept h (by simp)).c3, (X.kept h (by simp)).c4, (X.kept h (by simp)).c5, (M.kept h (by simp)).c0, (M.kept h (by simp)).c1, (M.kept h (by simp)).c2⟩
    have d1 := s1.kept (gb_drew u0 none)
    have d2 := s2.kept (gb_drew u0 none)
    have d4 := s4.kept (gb_drew u0 none)
    have K0 := gb_drew u0 none
    go_region_held3 (fun w' => w'.cell? ⟨w1.heap.size, 0, none⟩ = some (.int .i64 r1) ∧ w'.cell? ⟨w1.heap.size, 1, none⟩ = some (.int .i64 c1) ∧ w'.cell? ⟨w1.heap.size, 2, none⟩ = some (.slice a1 x1.length cap1) ∧ w'.cell? ⟨w1.heap.size, 3, none⟩ = some (.int .i64 r2) ∧ w'.cell? ⟨w1.heap.size, 4, none⟩ = some (.int .i64 c2) ∧ w'.cell? ⟨w1.heap.size, 5, none⟩ = some (.slice a2 x2.length cap2) ∧ w'.cell? ⟨w2.heap.size, 0, none⟩ = some (.int .i64 R0) ∧ w'.cell? ⟨w2.heap.size, 1, none⟩ = some (.int .i64 C0) ∧ w'.cell? ⟨w2.heap.size, 2, none⟩ = some (.slice a4 l.length cap4))
      (exact HM.out _ (by with_reducible assumption))
      (first
        | (go_at_call 37; have _t := K0; refine (C2.out _ d1 d2).mono ?_; rintro e v1 ⟨b1, j1, rfl, o1, hg1⟩; have K1 := gbt K0 hg1; replace d4 := d4.kept hg1; have d3 := Sees.of_own o1; clear K0 hg1)
        | (go_at_call 26; have _t := K1; refine (sameMatrix R0 C0 _ _ _ _ d4 d3).mono ?_; rintro e v2 ⟨rfl, hg2⟩; have K2 := gbt K1 hg2; clear K1 hg2))
    clear HM d1 d2 d3 d4
    replace X := X.kept K2 (by simp)
    replace M := M.kept K2 (by simp)
    replace s1 := s1.kept K2
    replace s2 := s2.kept K2
    replace s4 := s4.kept K2
    replace G0 := gbt G0 K2
    clear K2
    have M0 := M.c0
    cases q with
    | false =>
      obtain rfl : R0 = 0 := hR0.out
      go_wp2_with (go_at_call 27; refine (alive _).mono ?_; rintro e w' ⟨rfl, rfl⟩)
      go_ret
      exact ⟨rfl, gb_below G0⟩
    | true =>
      obtain ⟨hne, hmv⟩ := hr0.out rfl
      go_wp2_with fail
      clear M0
      obtain ⟨uz, huz⟩ : ∃ uz, uz = v2 := ⟨_, rfl⟩
      rw [← huz] at X M s1 s2 s4 G0 ⊢
      clear huz
      obtain ⟨p0, p1, p2, p3, p4, p5, _, _, _, _, _, _⟩ := id X
      have m0 := M.c0
      have m1 := M.c1
      have m2 := M.c2
      go_wp2_with fail
      clear p0 p1 p2 p3 p4 p5 m0 m1 m2
      have HM : Hid (∀ w', uz.grownBy w' none → w'.cell? ⟨w1.heap.size, 0, none⟩ = some (.int .i64 r1) ∧ w'.cell? ⟨w1.heap.size, 1, none⟩ = some (.int .i64 c1) ∧ w'.cell? ⟨w1.heap.size, 2, none⟩ = some (.slice a1 x1.length cap1) ∧ w'.cell? ⟨w1.heap.size, 3, none⟩ = some (.int .i64 r2) ∧ w'.cell? ⟨w1.heap.size, 4, none⟩ = some (.int .i64 c2) ∧ w'.cell? ⟨w1.heap.size, 5, none⟩ = some (.slice a2 x2.length cap2) ∧ w'.cell? ⟨w2.heap.size, 0, none⟩ = some (.int .i64 R0) ∧ w'.cell? ⟨w2.heap.size, 1, none⟩ = some (.int .i64 C0) ∧ w'.cell? ⟨w2.heap.size, 2, none⟩ = some (.slice a4 l.length cap4)) := fun w' h => ⟨(X.kept h (by simp)).c0, (X.kept h (by simp)).c1, (X.kept h (by simp)).c2, (X.kept h (by simp)).c3, (X.kept h (by simp)).c4, (X.kept h (by simp)).c5, (M.kept h (by simp)).c0, (M.kept h (by simp)).c1, (M.kept h (by simp)).c2⟩
      have d1 := s1.kept (gb_drew uz none)
      have d2 := s2.kept (gb_drew uz none)
      have d4 := s4.kept (gb_drew uz none)
      have K0 := gb_drew uz none
      go_region_held3 (fun w' => w'.cell? ⟨w1.heap.size, 0, none⟩ = some (.int .i64 r1) ∧ w'.cell? ⟨w1.heap.size, 1, none⟩ = some (.int .i64 c1) ∧ w'.cell? ⟨w1.heap.size, 2, none⟩ = some (.slice a1 x1.length cap1) ∧ w'.cell? ⟨w1.heap.size, 3, none⟩ = some (.int .i64 r2) ∧ w'.cell? ⟨w1.heap.size, 4, none⟩ = some (.int .i64 c2) ∧ w'.cell? ⟨w1.heap.size, 5, none⟩ = some (.slice a2 x2.length cap2) ∧ w'.cell? ⟨w2.heap.size, 0, none⟩ = some (.int .i64 R0) ∧ w'.cell? ⟨w2.heap.size, 1, none⟩ = some (.int .i64 C0) ∧ w'.cell? ⟨w2.heap.size, 2, none⟩ = some (.slice a4 l.length cap4))
        (exact HM.out _ (by with_reducible assumption))
        (first
          | (go_at_call 35; have _t := K0; refine (C3.out _ d1 d2).mono ?_; rintro e y1 ⟨b1, j1, rfl, o1, hg1⟩; have K1 := gbt K0 hg1; replace d4 := d4.kept hg1; have d3 := Sees.of_own o1; clear K0 hg1)
          | (go_at_call 26; have _t := K1; refine (sameMatrix R0 C0 _ _ _ _ d3 d4).mono ?_; rintro e y2 ⟨rfl, hg2⟩; have K2 := gbt K1 hg2; replace d4 := d4.kept hg2; clear K1 hg2)
          | (go_at_call 29; have _t := K2; refine (mvq true _ _ _ _ _ d4 hmv).mono ?_; rintro e y3 ⟨rfl, hg3⟩; have K3 := gbt K2 hg3; clear K2 hg3))
      go_wp2_with fail
      go_ret
      exact ⟨rfl, gb_below (gbt G0 K3)⟩
end Go.Proofs.Ytfnajbifdilfmaa.fnJoinMatrix
