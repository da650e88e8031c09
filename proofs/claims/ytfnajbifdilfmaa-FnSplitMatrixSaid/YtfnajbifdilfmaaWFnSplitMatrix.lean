/- The law FnSplitMatrix returns true for every code: shares of matrices can be joined, the first share does not depend on the values. Conditions: none. The walk. -/
import Derived.Test.YtfnajbifdilfmaaSpD
import Derived.WalkKit
import Derived.WalkLawsBesides
import Derived.WalkSpells
import Derived.Deep.RegionHeld3
import Derived.Deep.CutRange
namespace Go.Proofs.Ytfnajbifdilfmaa.fnSplitMatrix
open Go Go.RowKit
set_option linter.unusedVariables false

set_option maxHeartbeats 3200000 in
theorem walk (a0 : Option Addr) (len0 cap0 : Nat) (z0 : List Int) (w : World) (w0 : IsRow .u8 w a0 len0 cap0 z0) :
    Calls Try.prog 12 #[.slice a0 len0 cap0] w fun e w' => e = .returned (.bool true) ∧ Below w.heap.size w w' := by
  obtain ⟨i0, hi, hz0, hz1, hz2⟩ := info_parts info_int
  by_cases hl : 1048576 < len0
  · have h1 : (1048576 : Int) < (len0 : Int) := by omega
    go_enter Try.func12, Try.ntmps12
    go_wp2
    go_ret
    exact ⟨rfl, Below.refl _ _⟩
  · have h1 : (len0 : Int) ≤ 1048576 := by omega
    go_enter Try.func12, Try.ntmps12
    go_wp2_with fail
    refine (drawSplitMatrix _ _ _ _ _ w0).mono ?_
    rintro e w1 ⟨r, c, g0, cap1, xs, s, rfl, k1, s1, G0⟩
    replace G0 := gbt G0 (World.grownBy_alloc w1 (.cells #[.int .i64 r, .int .i64 c, .slice (some ⟨g0, 0, none⟩) xs.length cap1] 26) none)
    replace s1 := s1.alloc (.cells #[.int .i64 r, .int .i64 c, .slice (some ⟨g0, 0, none⟩) xs.length cap1] 26)
    have X := Three.new w1 (.int .i64 r) (.int .i64 c) (.slice (some ⟨g0, 0, none⟩) xs.length cap1) 26
    obtain ⟨R0, hR0⟩ : ∃ R0, R0 = pN (sq r c xs s) r := ⟨_, rfl⟩
    obtain ⟨C0, hC0⟩ : ∃ C0, C0 = pN (sq r c xs s) c := ⟨_, rfl⟩
    obtain ⟨l1, hl1⟩ : ∃ l1, l1 = sF r c xs s := ⟨_, rfl⟩
    obtain ⟨l2, hl2⟩ : ∃ l2, l2 = sS r c xs s := ⟨_, rfl⟩
    obtain ⟨z, hz⟩ : ∃ z, z = sZ r c xs s := ⟨_, rfl⟩
    have C1 : ∀ u v, Sees u v xs → Calls Try.prog 43 #[.agg #[.int .i64 r, .int .i64 c, v], .int .i64 s] u (RetSZ u R0 C0 l1 l2 z) := by intro u v h; rw [hR0, hC0, hl1, hl2, hz]; exact splitMatrix r c s v xs u h
    have C2 : ∀ u v, Sees u v xs → Calls Try.prog 44 #[.agg #[.int .i64 r, .int .i64 c, v], .int .i64 s] u (RetSX u R0 C0 l1 l2 z) := by intro u v h; rw [hR0, hC0, hl1, hl2, hz]; exact splitMatrix_s r c s v xs u h (by omega)
    have CQ : (z = 0 ∧ R0 = 0) ∨ ((z == 0) = false ∧ R0 = r ∧ C0 = c ∧ (∀ u v, Sees u v (zL xs.length) → Calls Try.prog 43 #[.agg #[.int .i64 r, .int .i64 c, v], .int .i64 s] u (RetSZ u R0 C0 l1 (subL (zL xs.length) l1) z)) ∧ (∀ u v v', Sees u v l1 → Sees u v' l2 → Calls Try.prog 35 #[.agg #[.int .i64 R0, .int .i64 C0, v, .int .i64 R0, .int .i64 C0, v']] u (RetM u r c xs))) := by
      by_cases hq : (mv r c xs && sv s) = true
      · right
        have hm : mv r c xs = true := by simp at hq; exact hq.1
        have hs : sv s = true := by simp at hq; exact hq.2
        obtain ⟨e1, e2, e3, e4, e5⟩ := sq_yes hm hs
        rw [hR0, hC0, hl1, hl2, hz, e1, e2, e3, e4, e5]
        have h1 := sv_iff.1 (rseed_sv s hs xs.length)
        refine ⟨by simp; omega, rfl, rfl, ?_, ?_⟩
        · intro u v h
          have h2 := splitMatrix_yes r c s v (zL xs.length) u h (zL_mv hm) hs
          rw [zL_len] at h2
          exact h2
        · intro u v v' h h'
          obtain ⟨j1, j2⟩ := join_split s hm
          have h2 := joinMatrix r c r c v v' _ _ u h h'
          rw [j1, j2] at h2
          exact h2
      · left
        replace hq : (mv r c xs && sv s) = false := by simpa using hq
        obtain ⟨e1, e2, e3, e4, e5⟩ := sq_no hq
        rw [hR0, hz, e1, e5]
        exact ⟨rfl, rfl⟩
    replace C1 := Lib.hid C1
    replace C2 := Lib.hid C2
    replace CQ := Lib.hid CQ
    have hne : (z != z) = false := by simp
    have heq : (z == z) = true := by simp
    clear hR0 hC0 hl1 hl2 hz
    have X_0 := X.c0
    have X_1 := X.c1
    have X_2 := X.c2
    go_wp2_with fail
    refine (C1.out _ _ s1).mono ?_
    rintro e w2 ⟨aS, capS, bS, dapS, kS, rfl, oS, pS, _, _, hg⟩
    clear X_0 X_1 X_2
    have sS1 := Sees.of_own oS
    have sS2 := Sees.of_own pS
    clear oS pS
    replace X := X.kept hg (by simp)
    replace s1 := s1.kept hg
    replace G0 := gbt G0 hg
    clear hg
    replace G0 := gbt G0 (World.grownBy_alloc w2 (.cells #[.int .i64 R0, .int .i64 C0, .slice aS l1.length capS, .int .i64 R0, .int .i64 C0, .slice bS l2.length dapS] 40) none)
    replace X := X.alloc (.cells #[.int .i64 R0, .int .i64 C0, .slice aS l1.length capS, .int .i64 R0, .int .i64 C0, .slice bS l2.length dapS] 40)
    replace s1 := s1.alloc (.cells #[.int .i64 R0, .int .i64 C0, .slice aS l1.length capS, .int .i64 R0, .int .i64 C0, .slice bS l2.length dapS] 40)
    replace sS1 := sS1.alloc (.cells #[.int .i64 R0, .int .i64 C0, .slice aS l1.length capS, .int .i64 R0, .int .i64 C0, .slice bS l2.length dapS] 40)
    replace sS2 := sS2.alloc (.cells #[.int .i64 R0, .int .i64 C0, .slice aS l1.length capS, .int .i64 R0, .int .i64 C0, .slice bS l2.length dapS] 40)
    have S := Six.new w2 (.int .i64 R0) (.int .i64 C0) (.slice aS l1.length capS) (.int .i64 R0) (.int .i64 C0) (.slice bS l2.length dapS) 40
    have X_0 := X.c0
    have X_1 := X.c1
    have X_2 := X.c2
    go_wp2_with fail
    refine (C2.out _ _ s1).mono ?_
    rintro e w3 ⟨aT, capT, bT, dapT, rfl, oT, pT, hg⟩
    clear X_0 X_1 X_2
    have sT1 := Sees.of_own oT
    have sT2 := Sees.of_own pT
    clear oT pT
    replace X := X.kept hg (by simp)
    replace S := S.kept hg (by simp)
    replace s1 := s1.kept hg
    replace sS1 := sS1.kept hg
    replace sS2 := sS2.kept hg
    replace G0 := gbt G0 hg
    clear hg
    replace G0 := gbt G0 (World.grownBy_alloc w3 (.cells #[.int .i64 R0, .int .i64 C0, .slice aT l1.length capT, .int .i64 R0, .int .i64 C0, .slice bT l2.length dapT] 40) none)
    replace X := X.alloc (.cells #[.int .i64 R0, .int .i64 C0, .slice aT l1.length capT, .int .i64 R0, .int .i64 C0, .slice bT l2.length dapT] 40)
    replace S := S.alloc (.cells #[.int .i64 R0, .int .i64 C0, .slice aT l1.length capT, .int .i64 R0, .int .i64 C0, .slice bT l2.length dapT] 40)
    replace s1 := s1.alloc (.cells #[.int .i64 R0, .int .i64 C0, .slice aT l1.length capT, .int .i64 R0, .int .i64 C0, .slice bT l2.length dapT] 40)
    replace sS1 := sS1.alloc (.cells #[.int .i64 R0, .int .i64 C0, .slice aT l1.length capT, .int .i64 R0, .int .i64 C0, .slice bT l2.length dapT] 40)
    replace sS2 := sS2.alloc (.cells #[.int .i64 R0, .int .i64 C0, .slice aT l1.length capT, .int .i64 R0, .int .i64 C0, .slice bT l2.length dapT] 40)
    replace sT1 := sT1.alloc (.cells #[.int .i64 R0, .int .i64 C0, .slice aT l1.length capT, .int .i64 R0, .int .i64 C0, .slice bT l2.length dapT] 40)
    replace sT2 := sT2.alloc (.cells #[.int .i64 R0, .int .i64 C0, .slice aT l1.length capT, .int .i64 R0, .int .i64 C0, .slice bT l2.length dapT] 40)
    have T := Six.new w3 (.int .i64 R0) (.int .i64 C0) (.slice aT l1.length capT) (.int .i64 R0) (.int .i64 C0) (.slice bT l2.length dapT) 40
    have S_0 := S.c0
    have S_1 := S.c1
    have S_2 := S.c2
    have S_3 := S.c3
    have S_4 := S.c4
    have S_5 := S.c5
    have T_0 := T.c0
    have T_1 := T.c1
    have T_2 := T.c2
    have T_3 := T.c3
    have T_4 := T.c4
    have T_5 := T.c5
    go_wp2_with fail
    refine (sameShares _ _ _ _ _ _ _ _ l1 l2 _ sS1 sS2 sT1 sT2).mono ?_
    rintro e w4 ⟨rfl, hg⟩
    clear S_0 S_1 S_2 S_3 S_4 S_5
    clear T_0 T_1 T_2 T_3 T_4 T_5
    replace X := X.kept hg (by simp)
    replace S := S.kept hg (by simp)
    replace T := T.kept hg (by simp)
    replace s1 := s1.kept hg
    replace sS1 := sS1.kept hg
    replace sS2 := sS2.kept hg
    replace sT1 := sT1.kept hg
    replace sT2 := sT2.kept hg
    replace G0 := gbt G0 hg
    clear hg
    clear T sT1 sT2
    rcases CQ.out with ⟨rfl, rfl⟩ | ⟨hz0', rfl, rfl, C3, C4⟩
    · have S_0 := S.c0
      go_wp2_with (go_at_call 27; refine (alive _).mono ?_; rintro e w' ⟨rfl, rfl⟩)
      go_ret
      exact ⟨rfl, gb_below G0⟩
    · skip
      replace C3 := Lib.hid C3
      replace C4 := Lib.hid C4
      clear C1 C2 CQ
      have X_0 := X.c0
      have X_1 := X.c1
      have X_2 := X.c2
      go_wp2_with fail
      have HM : Hid (∀ w', w4.grownBy w' none → w'.cell? ⟨w1.heap.size, 0, none⟩ = some (.int .i64 R0) ∧ w'.cell? ⟨w1.heap.size, 1, none⟩ = some (.int .i64 C0) ∧ w'.cell? ⟨w1.heap.size, 2, none⟩ = some (.slice (some ⟨g0, 0, none⟩) xs.length cap1)) := fun w' h => ⟨(X.kept h (by simp)).c0, (X.kept h (by simp)).c1, (X.kept h (by simp)).c2⟩
      go_cut [9] from 50 to 58 (fun v wx => ∃ (B : Nat) (a : Option Addr) (cap : Nat), v = .pointer (some ⟨B, 0, none⟩) ∧ Three wx B (.int .i64 R0) (.int .i64 C0) (.slice a xs.length cap) ∧ wx.ownsRow w4.heap.size 3 1 (.slice a xs.length cap) xs.length (ints (zL xs.length)) ∧ w4.grownBy wx none ∧ w4.heap.size ≤ B)
      case first =>
        have hmk : ∀ W, (Instr.makeSlice 22 (.int .i64 (xs.length : Int)) (.int .i64 (xs.length : Int))).run Try.prog W = .ok (.slice (some ⟨W.heap.size, 0, none⟩) xs.length xs.length) (W.alloc (.cells (madeCells #[.int .i64 0] xs.length) 3)) :=
          fun W => run_make_row 22 3 i0 (.int .i64 0) Try.underlying22 hi hz0 hz1 rfl .i64 .i64 xs.length (by rw [hz2]; omega) (by omega) W
        have D3 : Three ((w4.drew.alloc (.cells #[.int .i64 0, .int .i64 0, .slice none 0 0] 26)).alloc (.cells (madeCells #[.int .i64 0] xs.length) 3)) w4.heap.size (.int .i64 0) (.int .i64 0) (.slice none 0 0) := (Three.new w4.drew _ _ _ _).alloc _
        have d0 := D3.c0
        have d1 := D3.c1
        have d2 := D3.c2
        have d3 := D3.f0
        have d4 := D3.f1
        have d5 := D3.f2
        go_region_held3 (fun w' => w'.cell? ⟨w1.heap.size, 0, none⟩ = some (.int .i64 R0) ∧ w'.cell? ⟨w1.heap.size, 1, none⟩ = some (.int .i64 C0) ∧ w'.cell? ⟨w1.heap.size, 2, none⟩ = some (.slice (some ⟨g0, 0, none⟩) xs.length cap1))
          (exact HM.out _ (by (repeat (with_reducible first | assumption | exact World.grownBy.refl _ _ | refine gbt ?_ (World.grownBy_alloc _ _ none) | refine gbt ?_ (gb_drew _ none) | refine gb_setNew ?_ (by first | omega | (simp; omega) | (simp; (first | done | fail))) _ _)); (first | done | fail)))
          (fail)
        all_goals go_wp2_with fail
        all_goals go_meet

        all_goals case rel =>
          first
            | (refine ⟨_, some ⟨w4.heap.size, 0, none⟩, xs.length, rfl, ?_, ?_, (by (repeat (with_reducible first | assumption | exact World.grownBy.refl _ _ | refine gbt ?_ (World.grownBy_alloc _ _ none) | refine gbt ?_ (gb_drew _ none) | refine gb_setNew ?_ (by first | omega | (simp; omega) | (simp; (first | done | fail))) _ _)); (first | done | fail)), ?_⟩
               · have h := Three.kept (Three.new (w4.alloc (.cells (madeCells #[.int .i64 0] xs.length) 3)) (.int .i64 R0) (.int .i64 C0) (.slice (some ⟨w4.heap.size, 0, none⟩) xs.length xs.length) 26) (gb_drew _ none) (by simp)
                 rw [show (w4.alloc (.cells (madeCells #[.int .i64 0] xs.length) 3)).heap.size = w4.heap.size + 1 from by simp] at h
                 exact h
               · exact own_kept (own_kept (own_zero w4 xs.length w4.heap.size (by unfold maxLen; omega) (Nat.le_refl _)) (World.grownBy_alloc _ (.cells #[.int .i64 R0, .int .i64 C0, .slice (some ⟨w4.heap.size, 0, none⟩) xs.length xs.length] 26) none)) (gb_drew _ none)
               · omega)
            | (refine ⟨_, some ⟨w4.heap.size + 1, 0, none⟩, xs.length, rfl, ?_, ?_, (by (repeat (with_reducible first | assumption | exact World.grownBy.refl _ _ | refine gbt ?_ (World.grownBy_alloc _ _ none) | refine gbt ?_ (gb_drew _ none) | refine gb_setNew ?_ (by first | omega | (simp; omega) | (simp; (first | done | fail))) _ _)); (first | done | fail)), ?_⟩
               · exact Three.kept ((Three.new w4 (.int .i64 R0) (.int .i64 C0) (.slice (some ⟨w4.heap.size + 1, 0, none⟩) xs.length xs.length) 26).alloc (.cells (madeCells #[.int .i64 0] xs.length) 3)) (gb_drew _ none) (by simp)
               · have h := own_kept (own_zero (w4.alloc (.cells #[.int .i64 R0, .int .i64 C0, .slice (some ⟨w4.heap.size + 1, 0, none⟩) xs.length xs.length] 26)) xs.length w4.heap.size (by unfold maxLen; omega) (by simp)) (gb_drew _ none)
                 rw [show (w4.alloc (.cells #[.int .i64 R0, .int .i64 C0, .slice (some ⟨w4.heap.size + 1, 0, none⟩) xs.length xs.length] 26)).heap.size = w4.heap.size + 1 from by simp] at h
                 exact h
               · omega)
      clear X_0 X_1 X_2
      obtain ⟨BO, aO, capO, rfl, O, oO, hg, hBO⟩ := hcut
      clear HM
      replace X := X.kept hg (by simp)
      replace S := S.kept hg (by simp)
      replace s1 := s1.kept hg
      replace sS1 := sS1.kept hg
      replace sS2 := sS2.kept hg
      replace G0 := gbt G0 hg
      clear hg
      obtain ⟨w5, rfl⟩ : ∃ x, x = wc := ⟨_, rfl⟩
      have sO := Sees.of_own oO
      clear oO
      have O_0 := O.c0
      have O_1 := O.c1
      have O_2 := O.c2
      go_wp2_with fail
      refine (C3.out _ _ sO).mono ?_
      rintro e w6 ⟨aU, capU, bU, dapU, kU, rfl, oU, pU, _, _, hg⟩
      clear O_0 O_1 O_2
      have sU1 := Sees.of_own oU
      clear oU pU
      replace X := X.kept hg (by simp)
      replace O := O.kept hg (by simp)
      replace S := S.kept hg (by simp)
      replace s1 := s1.kept hg
      replace sS1 := sS1.kept hg
      replace sS2 := sS2.kept hg
      replace sO := sO.kept hg
      replace G0 := gbt G0 hg
      clear hg
      replace G0 := gbt G0 (World.grownBy_alloc w6 (.cells #[.int .i64 R0, .int .i64 C0, .slice aU l1.length capU, .int .i64 R0, .int .i64 C0, .slice bU (subL (zL xs.length) l1).length dapU] 40) none)
      replace X := X.alloc (.cells #[.int .i64 R0, .int .i64 C0, .slice aU l1.length capU, .int .i64 R0, .int .i64 C0, .slice bU (subL (zL xs.length) l1).length dapU] 40)
      replace O := O.alloc (.cells #[.int .i64 R0, .int .i64 C0, .slice aU l1.length capU, .int .i64 R0, .int .i64 C0, .slice bU (subL (zL xs.length) l1).length dapU] 40)
      replace S := S.alloc (.cells #[.int .i64 R0, .int .i64 C0, .slice aU l1.length capU, .int .i64 R0, .int .i64 C0, .slice bU (subL (zL xs.length) l1).length dapU] 40)
      replace s1 := s1.alloc (.cells #[.int .i64 R0, .int .i64 C0, .slice aU l1.length capU, .int .i64 R0, .int .i64 C0, .slice bU (subL (zL xs.length) l1).length dapU] 40)
      replace sS1 := sS1.alloc (.cells #[.int .i64 R0, .int .i64 C0, .slice aU l1.length capU, .int .i64 R0, .int .i64 C0, .slice bU (subL (zL xs.length) l1).length dapU] 40)
      replace sS2 := sS2.alloc (.cells #[.int .i64 R0, .int .i64 C0, .slice aU l1.length capU, .int .i64 R0, .int .i64 C0, .slice bU (subL (zL xs.length) l1).length dapU] 40)
      replace sO := sO.alloc (.cells #[.int .i64 R0, .int .i64 C0, .slice aU l1.length capU, .int .i64 R0, .int .i64 C0, .slice bU (subL (zL xs.length) l1).length dapU] 40)
      replace sU1 := sU1.alloc (.cells #[.int .i64 R0, .int .i64 C0, .slice aU l1.length capU, .int .i64 R0, .int .i64 C0, .slice bU (subL (zL xs.length) l1).length dapU] 40)
      have U := Six.new w6 (.int .i64 R0) (.int .i64 C0) (.slice aU l1.length capU) (.int .i64 R0) (.int .i64 C0) (.slice bU (subL (zL xs.length) l1).length dapU) 40
      obtain ⟨u, hu⟩ : ∃ u, u = w6.alloc (.cells #[.int .i64 R0, .int .i64 C0, .slice aU l1.length capU, .int .i64 R0, .int .i64 C0, .slice bU (subL (zL xs.length) l1).length dapU] 40) := ⟨_, rfl⟩
      have X_0 := X.c0
      have X_1 := X.c1
      have X_2 := X.c2
      have S_0 := S.c0
      have S_1 := S.c1
      have S_2 := S.c2
      have S_3 := S.c3
      have S_4 := S.c4
      have S_5 := S.c5
      have U_0 := U.c0
      have U_1 := U.c1
      have U_2 := U.c2
      have U_3 := U.c3
      have U_4 := U.c4
      have U_5 := U.c5
      go_wp2_with fail
      clear X_0 X_1 X_2
      clear S_0 S_1 S_2 S_3 S_4 S_5
      clear U_0 U_1 U_2 U_3 U_4 U_5
      rw [← hu] at X S U O s1 sS1 sS2 sU1 G0 ⊢
      clear hu
      have HM : Hid (∀ w', u.grownBy w' none → w'.cell? ⟨w1.heap.size, 0, none⟩ = some (.int .i64 R0) ∧ w'.cell? ⟨w1.heap.size, 1, none⟩ = some (.int .i64 C0) ∧ w'.cell? ⟨w1.heap.size, 2, none⟩ = some (.slice (some ⟨g0, 0, none⟩) xs.length cap1) ∧ w'.cell? ⟨w2.heap.size, 0, none⟩ = some (.int .i64 R0) ∧ w'.cell? ⟨w2.heap.size, 1, none⟩ = some (.int .i64 C0) ∧ w'.cell? ⟨w2.heap.size, 2, none⟩ = some (.slice aS l1.length capS) ∧ w'.cell? ⟨w2.heap.size, 3, none⟩ = some (.int .i64 R0) ∧ w'.cell? ⟨w2.heap.size, 4, none⟩ = some (.int .i64 C0) ∧ w'.cell? ⟨w2.heap.size, 5, none⟩ = some (.slice bS l2.length dapS) ∧ w'.cell? ⟨w6.heap.size, 0, none⟩ = some (.int .i64 R0) ∧ w'.cell? ⟨w6.heap.size, 1, none⟩ = some (.int .i64 C0) ∧ w'.cell? ⟨w6.heap.size, 2, none⟩ = some (.slice aU l1.length capU) ∧ w'.cell? ⟨w6.heap.size, 3, none⟩ = some (.int .i64 R0) ∧ w'.cell? ⟨w6.heap.size, 4, none⟩ = some (.int .i64 C0) ∧ w'.cell? ⟨w6.heap.size, 5, none⟩ = some (.slice bU (subL (zL xs.length) l1).length dapU)) := fun w' h => ⟨(X.kept h (by simp)).c0, (X.kept h (by simp)).c1, (X.kept h (by simp)).c2, (S.kept h (by simp)).c0, (S.kept h (by simp)).c1, (S.kept h (by simp)).c2, (S.kept h (by simp)).c3, (S.kept h (by simp)).c4, (S.kept h (by simp)).c5, (U.kept h (by simp)).c0, (U.kept h (by simp)).c1, (U.kept h (by simp)).c2, (U.kept h (by simp)).c3, (U.kept h (by simp)).c4, (U.kept h (by simp)).c5⟩
      have d1 := s1.kept (gb_drew u none)
      have d2 := sS1.kept (gb_drew u none)
      have d3 := sS2.kept (gb_drew u none)
      have d4 := sU1.kept (gb_drew u none)
      have K0 := gb_drew u none

      go_region_held3 (fun w' => w'.cell? ⟨w1.heap.size, 0, none⟩ = some (.int .i64 R0) ∧ w'.cell? ⟨w1.heap.size, 1, none⟩ = some (.int .i64 C0) ∧ w'.cell? ⟨w1.heap.size, 2, none⟩ = some (.slice (some ⟨g0, 0, none⟩) xs.length cap1) ∧ w'.cell? ⟨w2.heap.size, 0, none⟩ = some (.int .i64 R0) ∧ w'.cell? ⟨w2.heap.size, 1, none⟩ = some (.int .i64 C0) ∧ w'.cell? ⟨w2.heap.size, 2, none⟩ = some (.slice aS l1.length capS) ∧ w'.cell? ⟨w2.heap.size, 3, none⟩ = some (.int .i64 R0) ∧ w'.cell? ⟨w2.heap.size, 4, none⟩ = some (.int .i64 C0) ∧ w'.cell? ⟨w2.heap.size, 5, none⟩ = some (.slice bS l2.length dapS) ∧ w'.cell? ⟨w6.heap.size, 0, none⟩ = some (.int .i64 R0) ∧ w'.cell? ⟨w6.heap.size, 1, none⟩ = some (.int .i64 C0) ∧ w'.cell? ⟨w6.heap.size, 2, none⟩ = some (.slice aU l1.length capU) ∧ w'.cell? ⟨w6.heap.size, 3, none⟩ = some (.int .i64 R0) ∧ w'.cell? ⟨w6.heap.size, 4, none⟩ = some (.int .i64 C0) ∧ w'.cell? ⟨w6.heap.size, 5, none⟩ = some (.slice bU (subL (zL xs.length) l1).length dapU))
        (exact HM.out _ (by with_reducible assumption))
        (first
          | (go_at_call 35; have _t := K0; refine (C4.out _ _ _ d2 d3).mono ?_; rintro e y1 ⟨b1, j1, rfl, o1, hg1⟩; have K1 := gbt K0 hg1; replace d1 := d1.kept hg1; replace d2 := d2.kept hg1; replace d4 := d4.kept hg1; have d5 := Sees.of_own o1; clear K0 hg1)
          | (go_at_call 26; have _t := K1; refine (sameMatrix R0 C0 _ _ _ _ d5 d1).mono ?_; rintro e y2 ⟨rfl, hg2⟩; have K2 := gbt K1 hg2; replace d2 := d2.kept hg2; replace d4 := d4.kept hg2; clear K1 hg2)
          | (go_at_call 26; have _t := K2; refine (sameMatrix R0 C0 _ _ _ _ d4 d2).mono ?_; rintro e y3 ⟨rfl, hg3⟩; have K3 := gbt K2 hg3; clear K2 hg3))
      go_wp2_with fail
      go_ret
      exact ⟨rfl, gb_below (gbt G0 K3)⟩
end Go.Proofs.Ytfnajbifdilfmaa.fnSplitMatrix
