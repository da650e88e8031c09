/- The contracts of the ring numbers' functions, of the program and of the reference: each returns what the plain definition says and leaves the world alone. Conditions: integer arguments fit 64 bits. -/
import Derived.Test.YthcochdkclmejaaProg
import Derived.Test.YthcochdkclmejaaPlain
import Derived.WalkKit
import Derived.WalkLawsBesides
import Derived.WalkSpells
import Derived.Lib.Hide
namespace Go.Proofs.Ythcochdkclmejaa
open Go Go.RowKit

theorem ret_int {k : IntKind} {a b : Int} (h : a = b) : Ending.returned (.int k a) = .returned (.int k b) := by rw [h]
theorem ret_bool {a b : Bool} (h : a = b) : Ending.returned (.bool a) = .returned (.bool b) := by rw [h]
theorem ret_ints {k : IntKind} {a b c d : Int} (h : a = b) (h' : c = d) : Ending.returned (.tuple #[.int k a, .int k c]) = .returned (.tuple #[.int k b, .int k d]) := by rw [h, h']

theorem ringOf (n : Int) (w : World) : Calls Try.prog 78 #[.int .i64 n] w fun e w' => e = .returned (.int .i64 (n % 4096)) ∧ w = w' := by
  go_enter Try.func78, Try.ntmps78
  go_wp2
  go_ret
  exact ⟨ret_int (and_mask n), rfl⟩
theorem l1Ring (n : Int) (w : World) : Calls Try.prog 55 #[.int .i64 n] w fun e w' => e = .returned (.int .i64 (n % 4096)) ∧ w = w' := by
  go_enter Try.func55, Try.ntmps55
  go_wp2
  go_ret
  exact ⟨ret_int (l1ring_eq n), rfl⟩
theorem ringValid (n : Int) (w : World) : Calls Try.prog 51 #[.int .i64 n] w fun e w' => e = .returned (.bool (rv n)) ∧ w = w' := by
  go_enter Try.func51, Try.ntmps51
  go_wp2
  go_ret
  exact ⟨ret_bool (by rw [and_mask]; unfold rv; rw [Bool.eq_iff_iff]; simp; omega), rfl⟩
theorem l1In (n lo hi : Int) (w : World) : Calls Try.prog 61 #[.int .i64 n, .int .i64 lo, .int .i64 hi] w fun e w' => e = .returned (.bool (decide (lo ≤ n ∧ n ≤ hi))) ∧ w = w' := by
  by_cases h : lo ≤ n
  · go_enter Try.func61, Try.ntmps61
    go_wp2
    go_ret
    exact ⟨ret_bool (by simp [h]), rfl⟩
  · go_enter Try.func61, Try.ntmps61
    go_wp2
    go_ret
    exact ⟨ret_bool (by simp; omega), rfl⟩
theorem ringValid_s (n : Int) (w : World) : Calls Try.prog 54 #[.int .i64 n] w fun e w' => e = .returned (.bool (rv n)) ∧ w = w' := by
  go_enter Try.func54, Try.ntmps54
  go_wp2_with (go_at_call 61; refine (l1In _ _ _ _).mono ?_; rintro e w' ⟨rfl, rfl⟩)
  go_ret
  exact ⟨ret_bool (by unfold rv; simp), rfl⟩
theorem addRing (a b : Int) (w : World) : Calls Try.prog 56 #[.int .i64 a, .int .i64 b] w fun e w' => e = .returned (.int .i64 (addr a b)) ∧ w = w' := by
  by_cases ha : rv a = true
  · have hab := rv_iff.1 ha
    by_cases hb : rv b = true
    · have hbb := rv_iff.1 hb
      go_enter Try.func56, Try.ntmps56
      go_wp2_with (first | (go_at_call 51; refine (ringValid _ _).mono ?_; rintro e w' ⟨rfl, rfl⟩) | (go_at_call 78; refine (ringOf _ _).mono ?_; rintro e w' ⟨rfl, rfl⟩))
      go_ret
      exact ⟨ret_int (by simp [addr, ha, hb]), rfl⟩
    · have hb' : rv b = false := by simpa using hb
      go_enter Try.func56, Try.ntmps56
      go_wp2_with (go_at_call 51; refine (ringValid _ _).mono ?_; rintro e w' ⟨rfl, rfl⟩)
      go_ret
      exact ⟨ret_int (by simp [addr, hb']), rfl⟩
  · have ha' : rv a = false := by simpa using ha
    go_enter Try.func56, Try.ntmps56
    go_wp2_with (go_at_call 51; refine (ringValid _ _).mono ?_; rintro e w' ⟨rfl, rfl⟩)
    go_ret
    exact ⟨ret_int (by simp [addr, ha']), rfl⟩
theorem addRing_s (a b : Int) (w : World) : Calls Try.prog 59 #[.int .i64 a, .int .i64 b] w fun e w' => e = .returned (.int .i64 (addr a b)) ∧ w = w' := by
  by_cases ha : rv a = true
  · have hab := rv_iff.1 ha
    by_cases hb : rv b = true
    · have hbb := rv_iff.1 hb
      go_enter Try.func59, Try.ntmps59
      go_wp2_with (first | (go_at_call 54; refine (ringValid_s _ _).mono ?_; rintro e w' ⟨rfl, rfl⟩) | (go_at_call 55; refine (l1Ring _ _).mono ?_; rintro e w' ⟨rfl, rfl⟩))
      go_ret
      exact ⟨ret_int (by simp [addr, ha, hb]), rfl⟩
    · have hb' : rv b = false := by simpa using hb
      go_enter Try.func59, Try.ntmps59
      go_wp2_with (go_at_call 54; refine (ringValid_s _ _).mono ?_; rintro e w' ⟨rfl, rfl⟩)
      go_ret
      exact ⟨ret_int (by simp [addr, hb']), rfl⟩
  · have ha' : rv a = false := by simpa using ha
    go_enter Try.func59, Try.ntmps59
    go_wp2_with (go_at_call 54; refine (ringValid_s _ _).mono ?_; rintro e w' ⟨rfl, rfl⟩)
    go_ret
    exact ⟨ret_int (by simp [addr, ha']), rfl⟩
theorem subRing (a b : Int) (w : World) : Calls Try.prog 53 #[.int .i64 a, .int .i64 b] w fun e w' => e = .returned (.int .i64 (subr a b)) ∧ w = w' := by
  by_cases ha : rv a = true
  · have hab := rv_iff.1 ha
    by_cases hb : rv b = true
    · have hbb := rv_iff.1 hb
      go_enter Try.func53, Try.ntmps53
      go_wp2_with (first | (go_at_call 51; refine (ringValid _ _).mono ?_; rintro e w' ⟨rfl, rfl⟩) | (go_at_call 78; refine (ringOf _ _).mono ?_; rintro e w' ⟨rfl, rfl⟩))
      go_ret
      exact ⟨ret_int (by simp [subr, ha, hb]), rfl⟩
    · have hb' : rv b = false := by simpa using hb
      go_enter Try.func53, Try.ntmps53
      go_wp2_with (go_at_call 51; refine (ringValid _ _).mono ?_; rintro e w' ⟨rfl, rfl⟩)
      go_ret
      exact ⟨ret_int (by simp [subr, hb']), rfl⟩
  · have ha' : rv a = false := by simpa using ha
    go_enter Try.func53, Try.ntmps53
    go_wp2_with (go_at_call 51; refine (ringValid _ _).mono ?_; rintro e w' ⟨rfl, rfl⟩)
    go_ret
    exact ⟨ret_int (by simp [subr, ha']), rfl⟩
theorem seedValid (n : Int) (w : World) : Calls Try.prog 68 #[.int .i64 n] w fun e w' => e = .returned (.bool (sv n)) ∧ w = w' := by
  by_cases h : 1 ≤ n
  · go_enter Try.func68, Try.ntmps68
    go_wp2
    go_ret
    exact ⟨ret_bool (by simp [sv, h]), rfl⟩
  · go_enter Try.func68, Try.ntmps68
    go_wp2
    go_ret
    exact ⟨ret_bool (by simp [sv]; omega), rfl⟩
theorem nextRandom (s : Int) (w : World) : Calls Try.prog 82 #[.int .i64 s] w fun e w' => e = .returned (.tuple #[.int .i64 (rnum s), .int .i64 (rnx s)]) ∧ w = w' := by
  by_cases h : sv s = true
  · have hb := sv_iff.1 h
    go_enter Try.func82, Try.ntmps82
    go_wp2_with (first | (go_at_call 68; refine (seedValid _ _).mono ?_; rintro e w' ⟨rfl, rfl⟩) | (go_at_call 78; refine (ringOf _ _).mono ?_; rintro e w' ⟨rfl, rfl⟩))
    go_ret2
    exact ⟨ret_ints (by simp [h, rnum, nxt]) (by simp [h, rnx, nxt]), rfl⟩
  · have h' : sv s = false := by simpa using h
    go_enter Try.func82, Try.ntmps82
    go_wp2_with (go_at_call 68; refine (seedValid _ _).mono ?_; rintro e w' ⟨rfl, rfl⟩)
    go_ret2
    exact ⟨ret_ints (by simp [h', rnum]) (by simp [h', rnx]), rfl⟩
theorem l4Next (s : Int) (h : 0 ≤ s ∧ s ≤ 2147483646) (w : World) : Calls Try.prog 80 #[.int .i64 s] w fun e w' => e = .returned (.int .i64 (nxt s)) ∧ w = w' := by
  obtain ⟨h0, h1⟩ := h
  go_enter Try.func80, Try.ntmps80
  go_wp2
  go_ret
  exact ⟨ret_int (by unfold nxt; rw [Int.mul_comm]), rfl⟩
theorem alive (w : World) : Calls Try.prog 20 #[] w fun e w' => e = .returned (.bool true) ∧ w = w' := by
  go_enter Try.func20, Try.ntmps20
  go_wp2_with (go_at_call 51; refine (ringValid _ _).mono ?_; rintro e w' ⟨rfl, rfl⟩)
  go_ret
  exact ⟨ret_bool (by decide), rfl⟩
end Go.Proofs.Ythcochdkclmejaa
