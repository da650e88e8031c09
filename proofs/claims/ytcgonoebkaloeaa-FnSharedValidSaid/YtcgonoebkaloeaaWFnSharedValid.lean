/- The law FnSharedValid returns true for every code: SharedValid holds exactly if both shares are ring numbers; with the share -1 a shared number is invalid. Conditions: none. The walk. -/
import Derived.Test.YtcgonoebkaloeaaDraw
import Derived.WalkKit
import Derived.WalkLawsBesides
import Derived.WalkSpells
namespace Go.Proofs.Ytcgonoebkaloeaa.fnSharedValid
open Go Go.RowKit
set_option linter.unusedVariables false

theorem walk (a0 : Option Addr) (len0 cap0 : Nat) (z0 : List Int) (w : World) (w0 : IsRow .u8 w a0 len0 cap0 z0) :
    Calls Try.prog 7 #[.slice a0 len0 cap0] w fun e w' => e = .returned (.bool true) ∧ Below w.heap.size w w' := by
  by_cases hl : 1048576 < len0
  · have h1 : (1048576 : Int) < (len0 : Int) := by omega
    go_enter Try.func7, Try.ntmps7
    go_wp2
    go_ret
    exact ⟨rfl, Below.refl _ _⟩
  · have h1 : (len0 : Int) ≤ 1048576 := by omega
    have hm : rv (-1) = false := by decide
    go_enter Try.func7, Try.ntmps7
    go_wp2_with fail
    refine (drawSharedValid _ _ _ _ _ w0).mono ?_
    rintro e w1 ⟨v, ⟨x, y, rfl, hx, hy⟩, rfl, hb0⟩
    have hz0 := hb0.size
    by_cases ha : rv x = true
    · by_cases hb2 : rv y = true
      · go_wp2_with (first | (go_at_call 30; refine (sharedValid _ _ _).mono ?_; rintro e w' ⟨rfl, hb⟩; obtain ⟨hc, hf⟩ := bcell hb; have hz := hb.size; (try simp at hz); (try replace hz := Nat.lt_of_succ_le hz); (try have hy : w1.heap.size < w'.heap.size := (by omega))) | (go_at_call 31; refine (sharedValid_s _ _ _).mono ?_; rintro e w' ⟨rfl, hb⟩; obtain ⟨hc, hf⟩ := bcell hb; have hz := hb.size; (try simp at hz); (try replace hz := Nat.lt_of_succ_le hz); (try have hy : w1.heap.size < w'.heap.size := (by omega))) | (go_at_call 24; refine (ringValid _ _).mono ?_; rintro e w' ⟨rfl, rfl⟩) | (go_at_call 26; refine (alive _).mono ?_; rintro e w' ⟨rfl, rfl⟩))
        go_ret
        exact ⟨rfl, by repeat (first | exact Below.refl _ _ | assumption | (refine Below.alloc ?_ (by first | omega | (simp; done) | (simp; omega)) _) | (refine Below.setCell ?_ (by first | omega | (simp; done) | (simp; omega)) _) | refine bt ?_ (by assumption))⟩
      · have hb2' : rv y = false := by simpa using hb2
        go_wp2_with (first | (go_at_call 30; refine (sharedValid _ _ _).mono ?_; rintro e w' ⟨rfl, hb⟩; obtain ⟨hc, hf⟩ := bcell hb; have hz := hb.size; (try simp at hz); (try replace hz := Nat.lt_of_succ_le hz); (try have hy : w1.heap.size < w'.heap.size := (by omega))) | (go_at_call 31; refine (sharedValid_s _ _ _).mono ?_; rintro e w' ⟨rfl, hb⟩; obtain ⟨hc, hf⟩ := bcell hb; have hz := hb.size; (try simp at hz); (try replace hz := Nat.lt_of_succ_le hz); (try have hy : w1.heap.size < w'.heap.size := (by omega))) | (go_at_call 24; refine (ringValid _ _).mono ?_; rintro e w' ⟨rfl, rfl⟩) | (go_at_call 26; refine (alive _).mono ?_; rintro e w' ⟨rfl, rfl⟩))
        go_ret
        exact ⟨rfl, by repeat (first | exact Below.refl _ _ | assumption | (refine Below.alloc ?_ (by first | omega | (simp; done) | (simp; omega)) _) | (refine Below.setCell ?_ (by first | omega | (simp; done) | (simp; omega)) _) | refine bt ?_ (by assumption))⟩
    · have ha' : rv x = false := by simpa using ha
      go_wp2_with (first | (go_at_call 30; refine (sharedValid _ _ _).mono ?_; rintro e w' ⟨rfl, hb⟩; obtain ⟨hc, hf⟩ := bcell hb; have hz := hb.size; (try simp at hz); (try replace hz := Nat.lt_of_succ_le hz); (try have hy : w1.heap.size < w'.heap.size := (by omega))) | (go_at_call 31; refine (sharedValid_s _ _ _).mono ?_; rintro e w' ⟨rfl, hb⟩; obtain ⟨hc, hf⟩ := bcell hb; have hz := hb.size; (try simp at hz); (try replace hz := Nat.lt_of_succ_le hz); (try have hy : w1.heap.size < w'.heap.size := (by omega))) | (go_at_call 24; refine (ringValid _ _).mono ?_; rintro e w' ⟨rfl, rfl⟩) | (go_at_call 26; refine (alive _).mono ?_; rintro e w' ⟨rfl, rfl⟩))
      go_ret
      exact ⟨rfl, by repeat (first | exact Below.refl _ _ | assumption | (refine Below.alloc ?_ (by first | omega | (simp; done) | (simp; omega)) _) | (refine Below.setCell ?_ (by first | omega | (simp; done) | (simp; omega)) _) | refine bt ?_ (by assumption))⟩
end Go.Proofs.Ytcgonoebkaloeaa.fnSharedValid
