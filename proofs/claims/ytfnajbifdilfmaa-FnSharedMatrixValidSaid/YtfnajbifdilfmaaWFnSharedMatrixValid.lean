/- The law FnSharedMatrixValid returns true for every code: shares of matrices are valid exactly if they can be joined. Conditions: none. The walk. -/
import Derived.Test.YtfnajbifdilfmaaSDraw
import Derived.Test.YtfnajbifdilfmaaJoin
import Derived.WalkKit
import Derived.WalkLawsBesides
import Derived.WalkSpells
import Derived.Deep.RegionHeld3
namespace Go.Proofs.Ytfnajbifdilfmaa.fnSharedMatrixValid
open Go Go.RowKit
set_option linter.unusedVariables false

set_option maxHeartbeats 1600000 in
theorem walk (a0 : Option Addr) (len0 cap0 : Nat) (z0 : List Int) (w : World) (w0 : IsRow .u8 w a0 len0 cap0 z0) :
    Calls Try.prog 9 #[.slice a0 len0 cap0] w fun e w' => e = .returned (.bool true) ∧ Below w.heap.size w w' := by
  by_cases hl : 1048576 < len0
  · have h1 : (1048576 : Int) < (len0 : Int) := by omega
    go_enter Try.func9, Try.ntmps9
    go_wp2
    go_ret
    exact ⟨rfl, Below.refl _ _⟩
  · have h1 : (len0 : Int) ≤ 1048576 := by omega
    go_enter Try.func9, Try.ntmps9
    go_wp2_with fail
    refine (drawSharedMatrixValid _ _ _ _ _ w0).mono ?_
    rintro e w1 ⟨r1, c1, a1, cap1, x1, r2, c2, a2, cap2, x2, rfl, k1, k2, s1, s2, G0⟩
    have hx' : x1.length ≤ 1048576 := by omega
    have hy' : x2.length ≤ 1048576 := by omega
    have X := Six.new w1 (.int .i64 r1) (.int .i64 c1) (.slice a1 x1.length cap1) (.int .i64 r2) (.int .i64 c2) (.slice a2 x2.length cap2) 40
    replace G0 := gbt G0 (World.grownBy_alloc w1 (.cells #[.int .i64 r1, .int .i64 c1, .slice a1 x1.length cap1, .int .i64 r2, .int .i64 c2, .slice a2 x2.length cap2] 40) none)
    replace s1 := s1.alloc (.cells #[.int .i64 r1, .int .i64 c1, .slice a1 x1.length cap1, .int .i64 r2, .int .i64 c2, .slice a2 x2.length cap2] 40)
    replace s2 := s2.alloc (.cells #[.int .i64 r1, .int .i64 c1, .slice a1 x1.length cap1, .int .i64 r2, .int .i64 c2, .slice a2 x2.length cap2] 40)
    obtain ⟨q, hq⟩ : ∃ q, q = lk r1 c1 x1 r2 c2 x2 := ⟨_, rfl⟩
    obtain ⟨R0, hR0⟩ : ∃ R0, R0 = pN q r1 := ⟨_, rfl⟩
    obtain ⟨C0, hC0⟩ : ∃ C0, C0 = pN q c1 := ⟨_, rfl⟩
    obtain ⟨l, hll⟩ : ∃ l, l = pV q (addL x1 x2) := ⟨_, rfl⟩
    have C1 : ∀ u, Sees u (.slice a1 x1.length cap1) x1 → Sees u (.slice a2 x2.length cap2) x2 → Calls Try.prog 35 #[.agg #[.int .i64 r1, .int .i64 c1, .slice a1 x1.length cap1, .int .i64 r2, .int .i64 c2, .slice a2 x2.length cap2]] u (RetM u R0 C0 l) := by intro u h h'; rw [hR0, hC0, hll, hq]; exact joinMatrix _ _ _ _ _ _ _ _ _ h h'
    have hml : mv R0 C0 l = q := by
      rw [hR0, hC0, hll]
      cases hqq : q with
      | false => simp [mv, pN, pV, sd]
      | true =>
        rw [hqq] at hq
        obtain ⟨m1, m2, e1, e2⟩ := lk_iff.1 hq.symm
        rw [← e1, ← e2] at m2
        exact mv_zip addr_rv m1 m2
    replace C1 := Lib.hid C1
    replace hml := Lib.hid hml
    have hne : (q != q) = false := by simp
    have heq : (q == q) = true := by simp
    have HQ := Lib.hid hq.symm
    clear hq hR0 hC0 hll
    obtain ⟨p0, p1, p2, p3, p4, p5, _, _, _, _, _, _⟩ := id X
    go_wp2_with fail
    refine (sharedMatrixValid _ _ _ _ _ _ x1 x2 _ s1 s2 q HQ.out).mono ?_
    rintro e w2 ⟨rfl, hg⟩
    clear p0 p1 p2 p3 p4 p5
    replace X := X.kept hg (by simp)
    replace s1 := s1.kept hg
    replace s2 := s2.kept hg
    replace G0 := gbt G0 hg
    clear hg
    obtain ⟨p0, p1, p2, p3, p4, p5, _, _, _, _, _, _⟩ := id X
    go_wp2_with fail
    refine (sharedMatrixValid_s _ _ _ _ _ _ x1 x2 _ s1 s2 q HQ.out).mono ?_
    rintro e w3 ⟨rfl, hg⟩
    clear p0 p1 p2 p3 p4 p5
    replace X := X.kept hg (by simp)
    replace s1 := s1.kept hg
    replace s2 := s2.kept hg
    replace G0 := gbt G0 hg
    clear hg
    obtain ⟨p0, p1, p2, p3, p4, p5, _, _, _, _, _, _⟩ := id X
    go_wp2_with fail
    refine (C1.out _ s1 s2).mono ?_
    rintro e w4 ⟨a4, cap4, rfl, o4, hg⟩
    clear p0 p1 p2 p3 p4 p5
    replace G0 := gbt G0 hg
    clear hg
    go_wp2_with fail
    refine (mvq q _ _ _ l _ (Sees.of_own o4) hml.out).mono ?_
    rintro e w5 ⟨rfl, hg⟩
    replace G0 := gbt G0 hg
    clear hg o4
    go_wp2_with (go_at_call 27; refine (alive _).mono ?_; rintro e w' ⟨rfl, rfl⟩)
    go_ret
    exact ⟨rfl, gb_below G0⟩
end Go.Proofs.Ytfnajbifdilfmaa.fnSharedMatrixValid
