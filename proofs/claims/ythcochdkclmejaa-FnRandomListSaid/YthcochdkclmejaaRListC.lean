/- The contracts of RandomList, of the program and of the reference, for all arguments. Conditions: none. -/
import Derived.Test.YthcochdkclmejaaRList2
namespace Go.Proofs.Ythcochdkclmejaa
open Go Go.RowKit

/-- Whether a list is made; the list; the last seed. -/
def rok (s m : Int) : Bool := sv s && decide (0 ≤ m ∧ m ≤ 4096)
def rL (s m : Int) : List Int := if rok s m then rlist s m.toNat else []
def rZ (s m : Int) : Int := if rok s m then rseed s m.toNat else 0
/-- A list in new memory and a number are returned. -/
def RetL (w : World) (l : List Int) (z : Int) (e : Ending) (w' : World) : Prop :=
  ∃ (a : Option Addr) (cap : Nat), e = .returned (.tuple #[.slice a l.length cap, .int .i64 z]) ∧ w'.ownsRow w.heap.size 3 1 (.slice a l.length cap) l.length (ints l) ∧ w.grownBy w' none
theorem rL_len (s m : Int) : (rL s m).length ≤ 4096 := by
  unfold rL rok
  split
  · rename_i h
    simp at h
    rw [rlist_len]; omega
  · simp
theorem l1Inw (q : Bool) (n lo hi : Int) (w : World) (h : decide (lo ≤ n ∧ n ≤ hi) = q) : Calls Try.prog 61 #[.int .i64 n, .int .i64 lo, .int .i64 hi] w fun e w' => e = .returned (.bool q) ∧ w = w' := by
  subst h; exact l1In n lo hi w
theorem seedw (q : Bool) (s : Int) (w : World) (h : sv s = q) : Calls Try.prog 68 #[.int .i64 s] w fun e w' => e = .returned (.bool q) ∧ w = w' := by
  subst h; exact seedValid s w
theorem randomList_no (s m : Int) (hq : rok s m = false) (w : World) :
    Calls Try.prog 30 #[.int .i64 s, .int .i64 m] w fun e w' => e = .returned (.tuple #[.slice none 0 0, .int .i64 0]) ∧ w.grownBy w' none := by
  have G0 : w.grownBy (w.alloc (.cells #[.int .i64 m] 3)) none := World.grownBy_alloc _ _ _
  by_cases hs : sv s = true
  · have hm : ¬ (0 ≤ m ∧ m ≤ 4096) := by intro h; simp [rok, hs, h] at hq
    by_cases h0 : m < 0
    · go_enter Try.func30, Try.ntmps30
      go_wp2_with fail
      refine (seedw true s _ hs).mono ?_
      rintro e w' ⟨rfl, rfl⟩
      go_wp2_with fail
      go_ret2
      exact ⟨rfl, G0⟩
    · have h1 : 4096 < m := by omega
      go_enter Try.func30, Try.ntmps30
      go_wp2_with fail
      refine (seedw true s _ hs).mono ?_
      rintro e w' ⟨rfl, rfl⟩
      go_wp2_with fail
      go_ret2
      exact ⟨rfl, G0⟩
  · replace hs : sv s = false := by simpa using hs
    go_enter Try.func30, Try.ntmps30
    go_wp2_with fail
    refine (seedw false s _ hs).mono ?_
    rintro e w' ⟨rfl, rfl⟩
    go_wp2_with fail
    go_ret2
    exact ⟨rfl, G0⟩
theorem randomList (s m : Int) (w : World) : Calls Try.prog 30 #[.int .i64 s, .int .i64 m] w (RetL w (rL s m) (rZ s m)) := by
  cases hq : rok s m with
  | false =>
    refine (randomList_no s m hq w).mono ?_
    rintro e w' ⟨rfl, hg⟩
    have e1 : rL s m = [] := by simp [rL, hq]
    have e2 : rZ s m = 0 := by simp [rZ, hq]
    rw [e1, e2]
    exact ⟨none, 0, rfl, World.ownsRow_nil _ _ _ _, hg⟩
  | true =>
    have h := hq
    simp [rok] at h
    obtain ⟨hs, h0, h1⟩ := h
    obtain ⟨n, rfl⟩ := Int.eq_ofNat_of_zero_le h0
    refine (randomList_yes s n hs (by omega) w).mono ?_
    rintro e w' ⟨v, rfl, ho, hb⟩
    obtain ⟨a, cap, rfl⟩ := own_slice ho
    have e1 : rL s n = rlist s n := by simp [rL, hq]
    have e2 : rZ s n = rseed s n := by simp [rZ, hq]
    rw [e1, e2]
    refine ⟨a, cap, by rw [rlist_len], ?_, below_gb hb⟩
    rw [rlist_len]
    exact ho
theorem randomList_s (s m : Int) (w : World) : Calls Try.prog 29 #[.int .i64 s, .int .i64 m] w (RetL w (rL s m) (rZ s m)) := by
  by_cases hs : sv s = true
  · by_cases hm : 0 ≤ m ∧ m ≤ 4096
    · have hq : rok s m = true := by simp [rok, hs, hm]
      obtain ⟨n, rfl⟩ := Int.eq_ofNat_of_zero_le hm.1
      have hb := sv_iff.1 hs
      have e1 : rL s n = rlist s n := by simp [rL, hq]
      have e2 : rZ s n = rseed s n := by simp [rZ, hq]
      rw [e1, e2]
      have C1 := Lib.hid (l4List s n (by omega) (by omega) w)
      clear hq e1 e2
      go_enter Try.func29, Try.ntmps29
      go_wp2_with fail
      refine (l1Inw true _ _ _ _ (by simpa using hb)).mono ?_
      rintro e w' ⟨rfl, rfl⟩
      go_wp2_with fail
      refine (l1Inw true _ _ _ _ (by simp; omega)).mono ?_
      rintro e w' ⟨rfl, rfl⟩
      go_wp2_with fail
      refine C1.out.mono ?_
      rintro e w1 ⟨v, rfl, ho, hbl⟩
      obtain ⟨a, cap, rfl⟩ := own_slice ho
      go_wp2_with fail
      go_ret2
      refine ⟨a, cap, by rw [rlist_len]; rfl, ?_, below_gb hbl⟩
      rw [rlist_len]
      exact ho
    · have hq : rok s m = false := by simp [rok, hm]
      have e1 : rL s m = [] := by simp [rL, hq]
      have e2 : rZ s m = 0 := by simp [rZ, hq]
      rw [e1, e2]
      have hb := sv_iff.1 hs
      clear hq e1 e2
      go_enter Try.func29, Try.ntmps29
      go_wp2_with fail
      refine (l1Inw true _ _ _ _ (by simpa using hb)).mono ?_
      rintro e w' ⟨rfl, rfl⟩
      go_wp2_with fail
      refine (l1Inw false _ _ _ _ (by simpa using hm)).mono ?_
      rintro e w' ⟨rfl, rfl⟩
      go_wp2_with fail
      go_ret2
      exact ⟨_, _, rfl, World.ownsRow_made w #[] 0 (Nat.le_refl _) (by decide) rfl, World.grownBy_alloc _ _ _⟩
  · replace hs : sv s = false := by simpa using hs
    have hq : rok s m = false := by simp [rok, hs]
    have e1 : rL s m = [] := by simp [rL, hq]
    have e2 : rZ s m = 0 := by simp [rZ, hq]
    rw [e1, e2]
    clear hq e1 e2
    go_enter Try.func29, Try.ntmps29
    go_wp2_with fail
    refine (l1Inw false _ _ _ _ (by have := sv_no.1 hs; simp; omega)).mono ?_
    rintro e w' ⟨rfl, rfl⟩
    go_wp2_with fail
    go_ret2
    exact ⟨_, _, rfl, World.ownsRow_made w #[] 0 (Nat.le_refl _) (by decide) rfl, World.grownBy_alloc _ _ _⟩
end Go.Proofs.Ythcochdkclmejaa
