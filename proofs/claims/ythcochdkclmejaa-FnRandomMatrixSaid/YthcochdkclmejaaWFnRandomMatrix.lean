/- The law FnRandomMatrix returns true for every code: random matrices are random lists, their values are those of the list. Conditions: none. The walk. -/
import Derived.Test.YthcochdkclmejaaRMat
import Derived.Test.YthcochdkclmejaaDraw
import Derived.Test.YthcochdkclmejaaMatB
import Derived.WalkKit
import Derived.WalkLawsBesides
import Derived.WalkSpells
import Derived.Deep.RegionHeld3
namespace Go.Proofs.Ythcochdkclmejaa.fnRandomMatrix
open Go Go.RowKit
set_option linter.unusedVariables false

theorem drawRandomMatrix (a : Option Addr) (n cap : Nat) (z : List Int) (w : World) (h : IsRow .u8 w a n cap z) : Calls Try.prog 40 #[.slice a n cap] w fun e w' =>
    ∃ r c s : Int, e = .returned (.tuple #[.int .i64 r, .int .i64 c, .int .i64 s]) ∧ (0 ≤ r ∧ r ≤ 6) ∧ (0 ≤ c ∧ c ≤ 6) ∧ w.grownBy w' none := by
  go_enter Try.func40, Try.ntmps40
  go_wp2_with fail
  refine (l20Open a n cap z _ h).mono ?_
  rintro e w1 ⟨n', b, rfl, hr1, hg1⟩
  go_wp2_with fail
  refine (pick hr1 (by decide) 7 (by decide)).mono ?_
  rintro e w2 ⟨v, ⟨x, rfl, lx, ux⟩, rfl, hr2, hg2⟩
  go_wp2_with fail
  refine (pick hr2 (by decide) 7 (by decide)).mono ?_
  rintro e w3 ⟨v, ⟨y, rfl, ly, uy⟩, rfl, hr3, hg3⟩
  go_wp2_with fail
  refine (l20Seed hr3 (by decide) 9 (by decide)).mono ?_
  rintro e w4 ⟨v, ⟨s, rfl, ls, us⟩, rfl, hr4, hg4⟩
  have hb := below_gb hr4.below
  clear hr1 hr2 hr3 hr4 hg1 hg2 hg3 hg4
  go_wp2_with fail
  refine bodyPost_ret (v := .tuple #[.int .i64 x, .int .i64 y, .int .i64 s]) (by simp [results, Try.results40, go_sem]) rfl ?_
  exact ⟨x, y, s, rfl, ⟨lx, by omega⟩, ⟨ly, by omega⟩, hb⟩
set_option maxHeartbeats 1600000 in
theorem walk (a0 : Option Addr) (len0 cap0 : Nat) (z0 : List Int) (w : World) (w0 : IsRow .u8 w a0 len0 cap0 z0) :
    Calls Try.prog 11 #[.slice a0 len0 cap0] w fun e w' => e = .returned (.bool true) ∧ Below w.heap.size w w' := by
  by_cases hl : 1048576 < len0
  · have h1 : (1048576 : Int) < (len0 : Int) := by omega
    go_enter Try.func11, Try.ntmps11
    go_wp2
    go_ret
    exact ⟨rfl, Below.refl _ _⟩
  · have h1 : (len0 : Int) ≤ 1048576 := by omega
    go_enter Try.func11, Try.ntmps11
    go_wp2_with fail
    refine (drawRandomMatrix _ _ _ _ _ w0).mono ?_
    rintro e w1 ⟨r, c, s, rfl, hr, hc, G0⟩
    obtain ⟨q, hq⟩ : ∃ q, q = mok r c s := ⟨_, rfl⟩
    obtain ⟨R0, hR0⟩ : ∃ R0, R0 = pN q r := ⟨_, rfl⟩
    obtain ⟨C0, hC0⟩ : ∃ C0, C0 = pN q c := ⟨_, rfl⟩
    obtain ⟨l, hll⟩ : ∃ l, l = mL r c s := ⟨_, rfl⟩
    obtain ⟨z, hzz⟩ : ∃ z, z = mZ r c s := ⟨_, rfl⟩
    have C1 : ∀ u, Calls Try.prog 37 #[.int .i64 r, .int .i64 c, .int .i64 s] u (RetMZ u R0 C0 l z) := by intro u; rw [hR0, hC0, hll, hzz, hq]; exact randomMatrix r c s u
    have C2 : ∀ u, Calls Try.prog 36 #[.int .i64 r, .int .i64 c, .int .i64 s] u (RetMZ u R0 C0 l z) := by intro u; rw [hR0, hC0, hll, hzz, hq]; exact randomMatrix_sg r c s u
    have F0 : q = false → R0 = 0 ∧ z = 0 := by
      intro h
      have h2 : mok r c s = false := hq.symm.trans h
      exact ⟨by rw [hR0, h]; rfl, by rw [hzz]; simp [mZ, h2]⟩
    have F1 : q = true → R0 = r ∧ C0 = c ∧ l = rL s (r * c) ∧ z = rZ s (r * c) ∧ (z == 0) = false ∧ mv r c l = true ∧ IntKind.i64.wrap (r * c) = r * c := by
      intro h
      have h2 : mok r c s = true := hq.symm.trans h
      have h3 := h2
      simp [mok] at h3
      obtain ⟨⟨a1, a2⟩, a3⟩ := h3
      obtain ⟨hk, b0, b1, e3, e4⟩ := mok_parts a1 a2 a3
      have e1 : l = rL s (r * c) := by rw [hll]; simp [mL, h2]
      have e2 : z = rZ s (r * c) := by rw [hzz]; simp [mZ, h2]
      refine ⟨by rw [hR0, h]; rfl, by rw [hC0, h]; rfl, e1, e2, ?_, ?_, by rw [IntKind.wrap_i64]; omega⟩
      · have h5 := (sv_iff.1 (rseed_sv s a3 (r * c).toNat)).1
        rw [e2, e4]
        simp; omega
      · rw [e1, e3]
        exact mv_iff.2 ⟨a1, a2, by rw [rlist_len]; omega, rlist_rv _ _⟩
    replace C1 := Lib.hid C1
    replace C2 := Lib.hid C2
    replace F0 := Lib.hid F0
    replace F1 := Lib.hid F1
    have hzn : (z != z) = false := by simp
    have hze : (z == z) = true := by simp
    clear hq hR0 hC0 hll hzz
    go_wp2_with fail
    refine (C1.out _).mono ?_
    rintro e w2 ⟨aG, capG, rfl, oG, hg⟩
    have X := Three.new w2 (.int .i64 R0) (.int .i64 C0) (.slice aG l.length capG) 39
    have sG := (Sees.of_own oG).alloc (.cells #[.int .i64 R0, .int .i64 C0, .slice aG l.length capG] 39)
    replace G0 := gbt (gbt G0 hg) (World.grownBy_alloc w2 (.cells #[.int .i64 R0, .int .i64 C0, .slice aG l.length capG] 39) none)
    clear hg oG
    go_wp2_with fail
    refine (C2.out _).mono ?_
    rintro e w3 ⟨aW, capW, rfl, oW, hg⟩
    have hgx := gbt hg (World.grownBy_alloc w3 (.cells #[.int .i64 R0, .int .i64 C0, .slice aW l.length capW] 39) none)
    have Y := Three.new w3 (.int .i64 R0) (.int .i64 C0) (.slice aW l.length capW) 39
    have sW := (Sees.of_own oW).alloc (.cells #[.int .i64 R0, .int .i64 C0, .slice aW l.length capW] 39)
    replace X := X.kept hgx (by simp)
    replace sG := sG.kept hgx
    replace G0 := gbt G0 hgx
    clear hg hgx oW
    have x0 := X.c0
    have x1 := X.c1
    have x2 := X.c2
    have y0 := Y.c0
    have y1 := Y.c1
    have y2 := Y.c2
    go_wp2_with fail
    refine (sameMatrix _ _ _ _ l _ sG sW).mono ?_
    rintro e w4 ⟨rfl, hg⟩
    clear x0 x1 x2 y0 y1 y2
    replace X := X.kept hg (by simp)
    replace sG := sG.kept hg
    replace G0 := gbt G0 hg
    clear hg Y sW
    cases q with
    | false =>
      obtain ⟨rfl, rfl⟩ := F0.out rfl
      have x0 := X.c0
      go_wp2_with (go_at_call 20; refine (alive _).mono ?_; rintro e w' ⟨rfl, rfl⟩)
      go_ret
      exact ⟨rfl, gb_below G0⟩
    | true =>
      obtain ⟨e1, e2, e3, e4, hz0, hmv, ew⟩ := F1.out rfl
      have C3 : ∀ u, Calls Try.prog 30 #[.int .i64 s, .int .i64 (r * c)] u (RetL u l z) := by intro u; rw [e3, e4]; exact randomList s (r * c) u
      replace C3 := Lib.hid C3
      subst e1
      subst e2
      have hrr : (R0 == R0) = true := by simp
      have HMV := Lib.hid hmv
      clear e3 e4 hmv C1 C2 F0 F1
      go_wp2_with fail
      refine (C3.out _).mono ?_
      rintro e w5 ⟨aL, capL, rfl, oL, hg⟩
      replace X := X.kept hg (by simp)
      replace sG := sG.kept hg
      replace G0 := gbt G0 hg
      have sL := Sees.of_own oL
      clear hg oL
      have x0 := X.c0
      have x1 := X.c1
      have x2 := X.c2
      go_wp2_with fail
      refine (mvq true _ _ _ l _ sG HMV.out).mono ?_
      rintro e w6 ⟨rfl, hg⟩
      clear x0 x1 x2
      replace X := X.kept hg (by simp)
      replace sG := sG.kept hg
      replace sL := sL.kept hg
      replace G0 := gbt G0 hg
      clear hg
      have x0 := X.c0
      have x1 := X.c1
      have x2 := X.c2
      go_wp2_with fail
      refine (sameInts _ _ l _ sL sG).mono ?_
      rintro e w7 ⟨rfl, hg⟩
      clear x0 x1 x2
      replace X := X.kept hg (by simp)
      replace G0 := gbt G0 hg
      clear hg
      have x0 := X.c0
      go_wp2_with fail
      go_ret
      exact ⟨rfl, gb_below G0⟩
end Go.Proofs.Ythcochdkclmejaa.fnRandomMatrix
