/- Plain laws of products of matrices. -/
import Derived.Test.YtfnajbifdilfmaaMulS
import Derived.Test.YtfnajbifdilfmaaTurnP
namespace Go.Proofs.Ytfnajbifdilfmaa
open Go Go.RowKit

theorem mv_mul {r c c' : Int} {xs ys : List Int} (h1 : mv r c xs = true) (h2 : mv c c' ys = true) : mv r c' (mulV r c xs c' ys) = true := by
  obtain ⟨a1, _, _, _⟩ := mv_iff.1 h1
  obtain ⟨_, b2, _, _⟩ := mv_iff.1 h2
  obtain ⟨R, K, rfl, rfl, _, _, _⟩ := mv_dims h1
  obtain ⟨K', C, _, rfl, _, _, _⟩ := mv_dims h2
  refine mv_iff.2 ⟨a1, b2, by rw [mulV_nat, mulL_len]; simp, ?_⟩
  intro x hx
  rw [mulV_nat] at hx
  simp only [mulL, List.mem_map, List.mem_range] at hx
  obtain ⟨i, _, rfl⟩ := hx
  unfold mulE
  exact rv_iff.2 (by omega)
theorem mul_turned {r c c' : Int} {xs ys : List Int} (h1 : mv r c xs = true) (h2 : mv c c' ys = true) :
    mulV c' c (turnL ys c.toNat c'.toNat) r (turnL xs r.toNat c.toNat) = turnL (mulV r c xs c' ys) r.toNat c'.toNat := by
  obtain ⟨R, K, rfl, rfl, hR, _, _⟩ := mv_dims h1
  obtain ⟨K', C, _, rfl, _, _, _⟩ := mv_dims h2
  simp only [mulV, Int.toNat_natCast]
  exact (turn_mul xs ys R K C hR).symm
theorem mk_turned {r c c' : Int} {xs ys : List Int} (h1 : mv r c xs = true) (h2 : mv c c' ys = true) : mk c' c (turnL ys c.toNat c'.toNat) c r (turnL xs r.toNat c.toNat) = true :=
  mk_iff.2 ⟨mv_turn h2, mv_turn h1, rfl⟩
end Go.Proofs.Ytfnajbifdilfmaa
