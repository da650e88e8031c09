/- Plain laws of turned matrices. -/
import Derived.Test.YtfnajbifdilfmaaCol
namespace Go.Proofs.Ytfnajbifdilfmaa
open Go Go.RowKit

theorem mv_turn {r c : Int} {xs : List Int} (h : mv r c xs = true) : mv c r (turnL xs r.toNat c.toNat) = true := by
  obtain ⟨hr, hc, hl, hx⟩ := mv_iff.1 h
  obtain ⟨R, C, rfl, rfl, h1, _, h2, _, hn, _⟩ := mv_dims h
  refine mv_iff.2 ⟨hc, hr, by rw [turnL_len]; simp [Int.mul_comm], ?_⟩
  intro x hm
  simp only [turnL, List.mem_map, List.mem_range, Int.toNat_natCast] at hm
  obtain ⟨i, hi, rfl⟩ := hm
  have hR : 0 < R := h1
  have hiR : i / R < C := by
    refine Nat.div_lt_of_lt_mul ?_
    exact hi
  have hlt : i % R * C + i / R < R * C := lt_of _ _ _ _ (Nat.mod_lt _ hR) hiR
  have : turnE xs R C i = xs[i % R * C + i / R]'(by omega) := by
    simp [turnE, List.getD_eq_getElem?_getD, show i % R * C + i / R < xs.length by omega]
  rw [this]
  exact hx _ (List.getElem_mem _)
/-- The turned matrix of a valid one. -/
theorem turn_yes {r c : Int} {xs : List Int} (h : mv r c xs = true) : tR r c xs = c ∧ tC r c xs = r ∧ tV r c xs = turnL xs r.toNat c.toNat := by simp [tR, tC, tV, h]
theorem turn_no {r c : Int} {xs : List Int} (h : mv r c xs = false) : tR r c xs = 0 ∧ tC r c xs = 0 ∧ tV r c xs = [] := by simp [tR, tC, tV, h]
/-- Turned twice. -/
theorem turn_back {r c : Int} {xs : List Int} (h : mv r c xs = true) : tR c r (turnL xs r.toNat c.toNat) = r ∧ tC c r (turnL xs r.toNat c.toNat) = c ∧ tV c r (turnL xs r.toNat c.toNat) = xs := by
  obtain ⟨h1, h2, h3⟩ := turn_yes (mv_turn h)
  refine ⟨h1, h2, h3.trans ?_⟩
  obtain ⟨R, C, rfl, rfl, _, _, hC, _, hn, _⟩ := mv_dims h
  exact turn_turn xs R C hn hC

theorem turnMatrix_yes (r c : Int) (v : Value) (xs : List Int) (w : World) (hs : Sees w v xs) (h : mv r c xs = true) :
    Calls Try.prog 28 #[.agg #[.int .i64 r, .int .i64 c, v]] w (RetM w c r (turnL xs r.toNat c.toNat)) := by
  obtain ⟨h1, h2, h3⟩ := turn_yes h
  have := turnMatrix r c v xs w hs
  rw [h1, h2, h3] at this
  exact this
theorem turnMatrix_no (r c : Int) (v : Value) (xs : List Int) (w : World) (hs : Sees w v xs) (h : mv r c xs = false) :
    Calls Try.prog 28 #[.agg #[.int .i64 r, .int .i64 c, v]] w (RetM w 0 0 []) := by
  obtain ⟨h1, h2, h3⟩ := turn_no h
  have := turnMatrix r c v xs w hs
  rw [h1, h2, h3] at this
  exact this
theorem turnMatrix_back (r c : Int) (v : Value) (xs : List Int) (w : World) (hs : Sees w v (turnL xs r.toNat c.toNat)) (h : mv r c xs = true) :
    Calls Try.prog 28 #[.agg #[.int .i64 c, .int .i64 r, v]] w (RetM w r c xs) := by
  obtain ⟨h1, h2, h3⟩ := turn_back h
  have := turnMatrix c r v _ w hs
  rw [h1, h2, h3] at this
  exact this
end Go.Proofs.Ytfnajbifdilfmaa
