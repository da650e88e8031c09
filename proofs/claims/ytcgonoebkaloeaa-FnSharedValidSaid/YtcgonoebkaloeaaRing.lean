/- The contracts of the ring numbers' functions, of the program and of the reference: each returns what the plain definition says and leaves the world alone. Conditions: integer arguments fit 64 bits. -/
import Derived.Test.YtcgonoebkaloeaaProg
import Derived.Test.YtcgonoebkaloeaaPlain
import Derived.WalkKit
import Derived.WalkLawsBesides
import Derived.WalkSpells
import Derived.Lib.Hide
namespace Go.Proofs.Ytcgonoebkaloeaa
open Go Go.RowKit

theorem ret_int {k : IntKind} {a b : Int} (h : a = b) : Ending.returned (.int k a) = .returned (.int k b) := by rw [h]
theorem ret_bool {a b : Bool} (h : a = b) : Ending.returned (.bool a) = .returned (.bool b) := by rw [h]
theorem ret_ints {k : IntKind} {a b c d : Int} (h : a = b) (h' : c = d) : Ending.returned (.tuple #[.int k a, .int k c]) = .returned (.tuple #[.int k b, .int k d]) := by rw [h, h']

theorem ringOf (n : Int) (w : World) : Calls Try.prog 22 #[.int .i64 n] w fun e w' => e = .returned (.int .i64 (n % 4096)) ∧ w = w' := by
  go_enter Try.func22, Try.ntmps22
  go_wp2
  go_ret
  exact ⟨ret_int (and_mask n), rfl⟩
theorem l1Ring (n : Int) (w : World) : Calls Try.prog 50 #[.int .i64 n] w fun e w' => e = .returned (.int .i64 (n % 4096)) ∧ w = w' := by
  go_enter Try.func50, Try.ntmps50
  go_wp2
  go_ret
  exact ⟨ret_int (l1ring_eq n), rfl⟩
theorem ringOf_s (n : Int) (w : World) : Calls Try.prog 23 #[.int .i64 n] w fun e w' => e = .returned (.int .i64 (n % 4096)) ∧ w = w' := by
  go_enter Try.func23, Try.ntmps23
  go_wp2_with (go_at_call 50; refine (l1Ring _ _).mono ?_; rintro e w' ⟨rfl, rfl⟩)
  go_ret
  exact ⟨rfl, rfl⟩
theorem ringValid (n : Int) (w : World) : Calls Try.prog 24 #[.int .i64 n] w fun e w' => e = .returned (.bool (rv n)) ∧ w = w' := by
  go_enter Try.func24, Try.ntmps24
  go_wp2
  go_ret
  exact ⟨ret_bool (by rw [and_mask]; unfold rv; rw [Bool.eq_iff_iff]; simp; omega), rfl⟩
theorem l1In (n lo hi : Int) (w : World) : Calls Try.prog 58 #[.int .i64 n, .int .i64 lo, .int .i64 hi] w fun e w' => e = .returned (.bool (decide (lo ≤ n ∧ n ≤ hi))) ∧ w = w' := by
  by_cases h : lo ≤ n
  · go_enter Try.func58, Try.ntmps58
    go_wp2
    go_ret
    exact ⟨ret_bool (by simp [h]), rfl⟩
  · go_enter Try.func58, Try.ntmps58
    go_wp2
    go_ret
    exact ⟨ret_bool (by simp; omega), rfl⟩
theorem ringValid_s (n : Int) (w : World) : Calls Try.prog 28 #[.int .i64 n] w fun e w' => e = .returned (.bool (rv n)) ∧ w = w' := by
  go_enter Try.func28, Try.ntmps28
  go_wp2_with (go_at_call 58; refine (l1In _ _ _ _).mono ?_; rintro e w' ⟨rfl, rfl⟩)
  go_ret
  exact ⟨ret_bool (by unfold rv; simp), rfl⟩
theorem signedOf (n : Int) (w : World) : Calls Try.prog 25 #[.int .i64 n] w fun e w' => e = .returned (.int .i64 (sgn n)) ∧ w = w' := by
  by_cases h : rv n = true
  · have hb := rv_iff.1 h
    go_enter Try.func25, Try.ntmps25
    go_wp2_with (go_at_call 24; refine (ringValid _ _).mono ?_; rintro e w' ⟨rfl, rfl⟩)
    go_ret
    exact ⟨ret_int (by rw [xor_sign n hb.1 hb.2]; unfold sgn wrap64; rw [if_pos h]; split <;> omega), rfl⟩
  · have h' : rv n = false := by simpa using h
    go_enter Try.func25, Try.ntmps25
    go_wp2_with (go_at_call 24; refine (ringValid _ _).mono ?_; rintro e w' ⟨rfl, rfl⟩)
    go_ret
    exact ⟨ret_int (by simp [sgn, h']), rfl⟩
theorem signedOf_s (n : Int) (w : World) : Calls Try.prog 33 #[.int .i64 n] w fun e w' => e = .returned (.int .i64 (sgn n)) ∧ w = w' := by
  by_cases h : rv n = true
  · have hb := rv_iff.1 h
    by_cases h2 : 2048 ≤ n
    · go_enter Try.func33, Try.ntmps33
      go_wp2_with (go_at_call 28; refine (ringValid_s _ _).mono ?_; rintro e w' ⟨rfl, rfl⟩)
      go_ret
      exact ⟨ret_int (by unfold sgn; rw [if_pos h, if_neg (by omega)]), rfl⟩
    · go_enter Try.func33, Try.ntmps33
      go_wp2_with (go_at_call 28; refine (ringValid_s _ _).mono ?_; rintro e w' ⟨rfl, rfl⟩)
      go_ret
      exact ⟨ret_int (by unfold sgn; rw [if_pos h, if_pos (by omega)]), rfl⟩
  · have h' : rv n = false := by simpa using h
    go_enter Try.func33, Try.ntmps33
    go_wp2_with (go_at_call 28; refine (ringValid_s _ _).mono ?_; rintro e w' ⟨rfl, rfl⟩)
    go_ret
    exact ⟨ret_int (by simp [sgn, h']), rfl⟩
theorem addRing (a b : Int) (w : World) : Calls Try.prog 35 #[.int .i64 a, .int .i64 b] w fun e w' => e = .returned (.int .i64 (addr a b)) ∧ w = w' := by
  by_cases ha : rv a = true
  · have hab := rv_iff.1 ha
    by_cases hb : rv b = true
    · have hbb := rv_iff.1 hb
      go_enter Try.func35, Try.ntmps35
      go_wp2_with (first | (go_at_call 24; refine (ringValid _ _).mono ?_; rintro e w' ⟨rfl, rfl⟩) | (go_at_call 22; refine (ringOf _ _).mono ?_; rintro e w' ⟨rfl, rfl⟩))
      go_ret
      exact ⟨ret_int (by simp [addr, ha, hb]), rfl⟩
    · have hb' : rv b = false := by simpa using hb
      go_enter Try.func35, Try.ntmps35
      go_wp2_with (go_at_call 24; refine (ringValid _ _).mono ?_; rintro e w' ⟨rfl, rfl⟩)
      go_ret
      exact ⟨ret_int (by simp [addr, hb']), rfl⟩
  · have ha' : rv a = false := by simpa using ha
    go_enter Try.func35, Try.ntmps35
    go_wp2_with (go_at_call 24; refine (ringValid _ _).mono ?_; rintro e w' ⟨rfl, rfl⟩)
    go_ret
    exact ⟨ret_int (by simp [addr, ha']), rfl⟩
theorem addRing_s (a b : Int) (w : World) : Calls Try.prog 36 #[.int .i64 a, .int .i64 b] w fun e w' => e = .returned (.int .i64 (addr a b)) ∧ w = w' := by
  by_cases ha : rv a = true
  · have hab := rv_iff.1 ha
    by_cases hb : rv b = true
    · have hbb := rv_iff.1 hb
      go_enter Try.func36, Try.ntmps36
      go_wp2_with (first | (go_at_call 28; refine (ringValid_s _ _).mono ?_; rintro e w' ⟨rfl, rfl⟩) | (go_at_call 50; refine (l1Ring _ _).mono ?_; rintro e w' ⟨rfl, rfl⟩))
      go_ret
      exact ⟨ret_int (by simp [addr, ha, hb]), rfl⟩
    · have hb' : rv b = false := by simpa using hb
      go_enter Try.func36, Try.ntmps36
      go_wp2_with (go_at_call 28; refine (ringValid_s _ _).mono ?_; rintro e w' ⟨rfl, rfl⟩)
      go_ret
      exact ⟨ret_int (by simp [addr, hb']), rfl⟩
  · have ha' : rv a = false := by simpa using ha
    go_enter Try.func36, Try.ntmps36
    go_wp2_with (go_at_call 28; refine (ringValid_s _ _).mono ?_; rintro e w' ⟨rfl, rfl⟩)
    go_ret
    exact ⟨ret_int (by simp [addr, ha']), rfl⟩
theorem subRing (a b : Int) (w : World) : Calls Try.prog 37 #[.int .i64 a, .int .i64 b] w fun e w' => e = .returned (.int .i64 (subr a b)) ∧ w = w' := by
  by_cases ha : rv a = true
  · have hab := rv_iff.1 ha
    by_cases hb : rv b = true
    · have hbb := rv_iff.1 hb
      go_enter Try.func37, Try.ntmps37
      go_wp2_with (first | (go_at_call 24; refine (ringValid _ _).mono ?_; rintro e w' ⟨rfl, rfl⟩) | (go_at_call 22; refine (ringOf _ _).mono ?_; rintro e w' ⟨rfl, rfl⟩))
      go_ret
      exact ⟨ret_int (by simp [subr, ha, hb]), rfl⟩
    · have hb' : rv b = false := by simpa using hb
      go_enter Try.func37, Try.ntmps37
      go_wp2_with (go_at_call 24; refine (ringValid _ _).mono ?_; rintro e w' ⟨rfl, rfl⟩)
      go_ret
      exact ⟨ret_int (by simp [subr, hb']), rfl⟩
  · have ha' : rv a = false := by simpa using ha
    go_enter Try.func37, Try.ntmps37
    go_wp2_with (go_at_call 24; refine (ringValid _ _).mono ?_; rintro e w' ⟨rfl, rfl⟩)
    go_ret
    exact ⟨ret_int (by simp [subr, ha']), rfl⟩
theorem subRing_s (a b : Int) (w : World) : Calls Try.prog 45 #[.int .i64 a, .int .i64 b] w fun e w' => e = .returned (.int .i64 (subr a b)) ∧ w = w' := by
  by_cases ha : rv a = true
  · have hab := rv_iff.1 ha
    by_cases hb : rv b = true
    · have hbb := rv_iff.1 hb
      go_enter Try.func45, Try.ntmps45
      go_wp2_with (first | (go_at_call 28; refine (ringValid_s _ _).mono ?_; rintro e w' ⟨rfl, rfl⟩) | (go_at_call 50; refine (l1Ring _ _).mono ?_; rintro e w' ⟨rfl, rfl⟩))
      go_ret
      exact ⟨ret_int (by simp [subr, ha, hb]), rfl⟩
    · have hb' : rv b = false := by simpa using hb
      go_enter Try.func45, Try.ntmps45
      go_wp2_with (go_at_call 28; refine (ringValid_s _ _).mono ?_; rintro e w' ⟨rfl, rfl⟩)
      go_ret
      exact ⟨ret_int (by simp [subr, hb']), rfl⟩
  · have ha' : rv a = false := by simpa using ha
    go_enter Try.func45, Try.ntmps45
    go_wp2_with (go_at_call 28; refine (ringValid_s _ _).mono ?_; rintro e w' ⟨rfl, rfl⟩)
    go_ret
    exact ⟨ret_int (by simp [subr, ha']), rfl⟩
theorem mulRing (a b : Int) (w : World) : Calls Try.prog 42 #[.int .i64 a, .int .i64 b] w fun e w' => e = .returned (.int .i64 (mulr a b)) ∧ w = w' := by
  by_cases ha : rv a = true
  · have hab := rv_iff.1 ha
    by_cases hb : rv b = true
    · have hbb := rv_iff.1 hb
      have hm := sq_bd hab.1 hab.2 hbb.1 hbb.2
      go_enter Try.func42, Try.ntmps42
      go_wp2_with (first | (go_at_call 24; refine (ringValid _ _).mono ?_; rintro e w' ⟨rfl, rfl⟩) | (go_at_call 22; refine (ringOf _ _).mono ?_; rintro e w' ⟨rfl, rfl⟩))
      go_ret
      exact ⟨ret_int (by simp [mulr, ha, hb]), rfl⟩
    · have hb' : rv b = false := by simpa using hb
      go_enter Try.func42, Try.ntmps42
      go_wp2_with (go_at_call 24; refine (ringValid _ _).mono ?_; rintro e w' ⟨rfl, rfl⟩)
      go_ret
      exact ⟨ret_int (by simp [mulr, hb']), rfl⟩
  · have ha' : rv a = false := by simpa using ha
    go_enter Try.func42, Try.ntmps42
    go_wp2_with (go_at_call 24; refine (ringValid _ _).mono ?_; rintro e w' ⟨rfl, rfl⟩)
    go_ret
    exact ⟨ret_int (by simp [mulr, ha']), rfl⟩
theorem mulRing_s (a b : Int) (w : World) : Calls Try.prog 43 #[.int .i64 a, .int .i64 b] w fun e w' => e = .returned (.int .i64 (mulr a b)) ∧ w = w' := by
  by_cases ha : rv a = true
  · have hab := rv_iff.1 ha
    by_cases hb : rv b = true
    · have hbb := rv_iff.1 hb
      have hm := sq_bd hab.1 hab.2 hbb.1 hbb.2
      go_enter Try.func43, Try.ntmps43
      go_wp2_with (first | (go_at_call 28; refine (ringValid_s _ _).mono ?_; rintro e w' ⟨rfl, rfl⟩) | (go_at_call 50; refine (l1Ring _ _).mono ?_; rintro e w' ⟨rfl, rfl⟩))
      go_ret
      exact ⟨ret_int (by simp [mulr, ha, hb]), rfl⟩
    · have hb' : rv b = false := by simpa using hb
      go_enter Try.func43, Try.ntmps43
      go_wp2_with (go_at_call 28; refine (ringValid_s _ _).mono ?_; rintro e w' ⟨rfl, rfl⟩)
      go_ret
      exact ⟨ret_int (by simp [mulr, hb']), rfl⟩
  · have ha' : rv a = false := by simpa using ha
    go_enter Try.func43, Try.ntmps43
    go_wp2_with (go_at_call 28; refine (ringValid_s _ _).mono ?_; rintro e w' ⟨rfl, rfl⟩)
    go_ret
    exact ⟨ret_int (by simp [mulr, ha']), rfl⟩
theorem l2Floor (n : Int) (h : -16777216 ≤ n ∧ n ≤ 16777216) (w : World) : Calls Try.prog 51 #[.int .i64 n] w fun e w' => e = .returned (.int .i64 (n / 16)) ∧ w = w' := by
  obtain ⟨h1, h2⟩ := h
  by_cases h0 : n < 0
  · go_enter Try.func51, Try.ntmps51
    go_wp2
    go_ret
    exact ⟨ret_int (by first | omega | (rw [Int.tdiv_eq_ediv_of_nonneg (by omega)]; omega)), rfl⟩
  · go_enter Try.func51, Try.ntmps51
    go_wp2
    go_ret
    exact ⟨ret_int (by first | omega | (rw [Int.tdiv_eq_ediv_of_nonneg (by omega)])), rfl⟩
theorem cutRing (a : Int) (w : World) : Calls Try.prog 47 #[.int .i64 a] w fun e w' => e = .returned (.int .i64 (cutr a)) ∧ w = w' := by
  have hs := sgn_bd a
  by_cases ha : rv a = true
  · go_enter Try.func47, Try.ntmps47
    go_wp2_with (first | (go_at_call 24; refine (ringValid _ _).mono ?_; rintro e w' ⟨rfl, rfl⟩) | (go_at_call 25; refine (signedOf _ _).mono ?_; rintro e w' ⟨rfl, rfl⟩) | (go_at_call 22; refine (ringOf _ _).mono ?_; rintro e w' ⟨rfl, rfl⟩))
    go_ret
    exact ⟨ret_int (by simp [cutr, ha]), rfl⟩
  · have ha' : rv a = false := by simpa using ha
    go_enter Try.func47, Try.ntmps47
    go_wp2_with (go_at_call 24; refine (ringValid _ _).mono ?_; rintro e w' ⟨rfl, rfl⟩)
    go_ret
    exact ⟨ret_int (by simp [cutr, ha']), rfl⟩
theorem cutRing_s (a : Int) (w : World) : Calls Try.prog 48 #[.int .i64 a] w fun e w' => e = .returned (.int .i64 (cutr a)) ∧ w = w' := by
  have hs := sgn_bd a
  by_cases ha : rv a = true
  · go_enter Try.func48, Try.ntmps48
    go_wp2_with (first | (go_at_call 28; refine (ringValid_s _ _).mono ?_; rintro e w' ⟨rfl, rfl⟩) | (go_at_call 33; refine (signedOf_s _ _).mono ?_; rintro e w' ⟨rfl, rfl⟩) | (go_at_call 51; refine (l2Floor _ (by omega) _).mono ?_; rintro e w' ⟨rfl, rfl⟩) | (go_at_call 50; refine (l1Ring _ _).mono ?_; rintro e w' ⟨rfl, rfl⟩))
    go_ret
    exact ⟨ret_int (by simp [cutr, ha]), rfl⟩
  · have ha' : rv a = false := by simpa using ha
    go_enter Try.func48, Try.ntmps48
    go_wp2_with (go_at_call 28; refine (ringValid_s _ _).mono ?_; rintro e w' ⟨rfl, rfl⟩)
    go_ret
    exact ⟨ret_int (by simp [cutr, ha']), rfl⟩
theorem mulFixed (a b : Int) (w : World) : Calls Try.prog 16 #[.int .i64 a, .int .i64 b] w fun e w' => e = .returned (.int .i64 (mulf a b)) ∧ w = w' := by
  have hs := sgn_mul_bd a b
  by_cases ha : rv a = true
  · by_cases hb : rv b = true
    · go_enter Try.func16, Try.ntmps16
      go_wp2_with (first | (go_at_call 24; refine (ringValid _ _).mono ?_; rintro e w' ⟨rfl, rfl⟩) | (go_at_call 25; refine (signedOf _ _).mono ?_; rintro e w' ⟨rfl, rfl⟩) | (go_at_call 22; refine (ringOf _ _).mono ?_; rintro e w' ⟨rfl, rfl⟩))
      go_ret
      exact ⟨ret_int (by simp [mulf, ha, hb]), rfl⟩
    · have hb' : rv b = false := by simpa using hb
      go_enter Try.func16, Try.ntmps16
      go_wp2_with (go_at_call 24; refine (ringValid _ _).mono ?_; rintro e w' ⟨rfl, rfl⟩)
      go_ret
      exact ⟨ret_int (by simp [mulf, hb']), rfl⟩
  · have ha' : rv a = false := by simpa using ha
    go_enter Try.func16, Try.ntmps16
    go_wp2_with (go_at_call 24; refine (ringValid _ _).mono ?_; rintro e w' ⟨rfl, rfl⟩)
    go_ret
    exact ⟨ret_int (by simp [mulf, ha']), rfl⟩
theorem mulFixed_s (a b : Int) (w : World) : Calls Try.prog 15 #[.int .i64 a, .int .i64 b] w fun e w' => e = .returned (.int .i64 (mulf a b)) ∧ w = w' := by
  have hs := sgn_mul_bd a b
  by_cases ha : rv a = true
  · by_cases hb : rv b = true
    · go_enter Try.func15, Try.ntmps15
      go_wp2_with (first | (go_at_call 28; refine (ringValid_s _ _).mono ?_; rintro e w' ⟨rfl, rfl⟩) | (go_at_call 33; refine (signedOf_s _ _).mono ?_; rintro e w' ⟨rfl, rfl⟩) | (go_at_call 51; refine (l2Floor _ (by omega) _).mono ?_; rintro e w' ⟨rfl, rfl⟩) | (go_at_call 50; refine (l1Ring _ _).mono ?_; rintro e w' ⟨rfl, rfl⟩))
      go_ret
      exact ⟨ret_int (by simp [mulf, ha, hb]), rfl⟩
    · have hb' : rv b = false := by simpa using hb
      go_enter Try.func15, Try.ntmps15
      go_wp2_with (go_at_call 28; refine (ringValid_s _ _).mono ?_; rintro e w' ⟨rfl, rfl⟩)
      go_ret
      exact ⟨ret_int (by simp [mulf, hb']), rfl⟩
  · have ha' : rv a = false := by simpa using ha
    go_enter Try.func15, Try.ntmps15
    go_wp2_with (go_at_call 28; refine (ringValid_s _ _).mono ?_; rintro e w' ⟨rfl, rfl⟩)
    go_ret
    exact ⟨ret_int (by simp [mulf, ha']), rfl⟩
theorem seedValid (n : Int) (w : World) : Calls Try.prog 61 #[.int .i64 n] w fun e w' => e = .returned (.bool (sv n)) ∧ w = w' := by
  by_cases h : 1 ≤ n
  · go_enter Try.func61, Try.ntmps61
    go_wp2
    go_ret
    exact ⟨ret_bool (by simp [sv, h]), rfl⟩
  · go_enter Try.func61, Try.ntmps61
    go_wp2
    go_ret
    exact ⟨ret_bool (by simp [sv]; omega), rfl⟩
theorem nextRandom (s : Int) (w : World) : Calls Try.prog 39 #[.int .i64 s] w fun e w' => e = .returned (.tuple #[.int .i64 (rnum s), .int .i64 (rnx s)]) ∧ w = w' := by
  by_cases h : sv s = true
  · have hb := sv_iff.1 h
    go_enter Try.func39, Try.ntmps39
    go_wp2_with (first | (go_at_call 61; refine (seedValid _ _).mono ?_; rintro e w' ⟨rfl, rfl⟩) | (go_at_call 22; refine (ringOf _ _).mono ?_; rintro e w' ⟨rfl, rfl⟩))
    go_ret2
    exact ⟨ret_ints (by simp [h, rnum, nxt]) (by simp [h, rnx, nxt]), rfl⟩
  · have h' : sv s = false := by simpa using h
    go_enter Try.func39, Try.ntmps39
    go_wp2_with (go_at_call 61; refine (seedValid _ _).mono ?_; rintro e w' ⟨rfl, rfl⟩)
    go_ret2
    exact ⟨ret_ints (by simp [h', rnum]) (by simp [h', rnx]), rfl⟩
theorem l4Next (s : Int) (h : 0 ≤ s ∧ s ≤ 2147483646) (w : World) : Calls Try.prog 64 #[.int .i64 s] w fun e w' => e = .returned (.int .i64 (nxt s)) ∧ w = w' := by
  obtain ⟨h0, h1⟩ := h
  go_enter Try.func64, Try.ntmps64
  go_wp2
  go_ret
  exact ⟨ret_int (by unfold nxt; rw [Int.mul_comm]), rfl⟩
theorem alive (w : World) : Calls Try.prog 26 #[] w fun e w' => e = .returned (.bool true) ∧ w = w' := by
  go_enter Try.func26, Try.ntmps26
  go_wp2_with (go_at_call 24; refine (ringValid _ _).mono ?_; rintro e w' ⟨rfl, rfl⟩)
  go_ret
  exact ⟨ret_bool (by decide), rfl⟩
end Go.Proofs.Ytcgonoebkaloeaa
