/- The contracts of the ring numbers' functions, of the program and of the reference: each returns what the plain definition says and leaves the world alone. Conditions: integer arguments fit 64 bits. -/
import Derived.Test.YtmilkkingeeblaaDoorProg
import Derived.Test.YtmilkkingeeblaaDoorPlain
import Derived.WalkKit
import Derived.WalkLawsBesides
import Derived.WalkSpells
import Derived.Lib.Hide
namespace Go.Proofs.YtmilkkingeeblaaDoor
open Go Go.RowKit

theorem ret_int {k : IntKind} {a b : Int} (h : a = b) : Ending.returned (.int k a) = .returned (.int k b) := by rw [h]
theorem ret_bool {a b : Bool} (h : a = b) : Ending.returned (.bool a) = .returned (.bool b) := by rw [h]
theorem ret_ints {k : IntKind} {a b c d : Int} (h : a = b) (h' : c = d) : Ending.returned (.tuple #[.int k a, .int k c]) = .returned (.tuple #[.int k b, .int k d]) := by rw [h, h']

theorem ringOf (n : Int) (w : World) : Calls Tryd.prog 19 #[.int .i64 n] w fun e w' => e = .returned (.int .i64 (n % 4096)) ∧ w = w' := by
  go_enter Tryd.func19, Tryd.ntmps19
  go_wp2
  go_ret
  exact ⟨ret_int (and_mask n), rfl⟩
theorem l1Ring (n : Int) (w : World) : Calls Tryd.prog 15 #[.int .i64 n] w fun e w' => e = .returned (.int .i64 (n % 4096)) ∧ w = w' := by
  go_enter Tryd.func15, Tryd.ntmps15
  go_wp2
  go_ret
  exact ⟨ret_int (l1ring_eq n), rfl⟩
theorem ringValid (n : Int) (w : World) : Calls Tryd.prog 22 #[.int .i64 n] w fun e w' => e = .returned (.bool (rv n)) ∧ w = w' := by
  go_enter Tryd.func22, Tryd.ntmps22
  go_wp2
  go_ret
  exact ⟨ret_bool (by rw [and_mask]; unfold rv; rw [Bool.eq_iff_iff]; simp; omega), rfl⟩
theorem l1In (n lo hi : Int) (w : World) : Calls Tryd.prog 28 #[.int .i64 n, .int .i64 lo, .int .i64 hi] w fun e w' => e = .returned (.bool (decide (lo ≤ n ∧ n ≤ hi))) ∧ w = w' := by
  by_cases h : lo ≤ n
  · go_enter Tryd.func28, Tryd.ntmps28
    go_wp2
    go_ret
    exact ⟨ret_bool (by simp [h]), rfl⟩
  · go_enter Tryd.func28, Tryd.ntmps28
    go_wp2
    go_ret
    exact ⟨ret_bool (by simp; omega), rfl⟩
theorem ringValid_s (n : Int) (w : World) : Calls Tryd.prog 12 #[.int .i64 n] w fun e w' => e = .returned (.bool (rv n)) ∧ w = w' := by
  go_enter Tryd.func12, Tryd.ntmps12
  go_wp2_with (go_at_call 28; refine (l1In _ _ _ _).mono ?_; rintro e w' ⟨rfl, rfl⟩)
  go_ret
  exact ⟨ret_bool (by unfold rv; simp), rfl⟩
theorem signedOf (n : Int) (w : World) : Calls Tryd.prog 23 #[.int .i64 n] w fun e w' => e = .returned (.int .i64 (sgn n)) ∧ w = w' := by
  by_cases h : rv n = true
  · have hb := rv_iff.1 h
    go_enter Tryd.func23, Tryd.ntmps23
    go_wp2_with (go_at_call 22; refine (ringValid _ _).mono ?_; rintro e w' ⟨rfl, rfl⟩)
    go_ret
    exact ⟨ret_int (by rw [xor_sign n hb.1 hb.2]; unfold sgn wrap64; rw [if_pos h]; split <;> omega), rfl⟩
  · have h' : rv n = false := by simpa using h
    go_enter Tryd.func23, Tryd.ntmps23
    go_wp2_with (go_at_call 22; refine (ringValid _ _).mono ?_; rintro e w' ⟨rfl, rfl⟩)
    go_ret
    exact ⟨ret_int (by simp [sgn, h']), rfl⟩
theorem signedOf_s (n : Int) (w : World) : Calls Tryd.prog 26 #[.int .i64 n] w fun e w' => e = .returned (.int .i64 (sgn n)) ∧ w = w' := by
  by_cases h : rv n = true
  · have hb := rv_iff.1 h
    by_cases h2 : 2048 ≤ n
    · go_enter Tryd.func26, Tryd.ntmps26
      go_wp2_with (go_at_call 12; refine (ringValid_s _ _).mono ?_; rintro e w' ⟨rfl, rfl⟩)
      go_ret
      exact ⟨ret_int (by unfold sgn; rw [if_pos h, if_neg (by omega)]), rfl⟩
    · go_enter Tryd.func26, Tryd.ntmps26
      go_wp2_with (go_at_call 12; refine (ringValid_s _ _).mono ?_; rintro e w' ⟨rfl, rfl⟩)
      go_ret
      exact ⟨ret_int (by unfold sgn; rw [if_pos h, if_pos (by omega)]), rfl⟩
  · have h' : rv n = false := by simpa using h
    go_enter Tryd.func26, Tryd.ntmps26
    go_wp2_with (go_at_call 12; refine (ringValid_s _ _).mono ?_; rintro e w' ⟨rfl, rfl⟩)
    go_ret
    exact ⟨ret_int (by simp [sgn, h']), rfl⟩
theorem alive (w : World) : Calls Tryd.prog 13 #[] w fun e w' => e = .returned (.bool true) ∧ w = w' := by
  go_enter Tryd.func13, Tryd.ntmps13
  go_wp2_with (go_at_call 22; refine (ringValid _ _).mono ?_; rintro e w' ⟨rfl, rfl⟩)
  go_ret
  exact ⟨ret_bool (by decide), rfl⟩
end Go.Proofs.YtmilkkingeeblaaDoor
