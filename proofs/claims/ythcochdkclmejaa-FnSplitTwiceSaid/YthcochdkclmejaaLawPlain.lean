/- Plain facts of the laws of shared numbers: no program in sight. -/
import Derived.Test.YthcochdkclmejaaPlain
namespace Go.Proofs.Ythcochdkclmejaa
open Go Go.RowKit

theorem split_yes {x r : Int} (hx : rv x = true) (hr : rv r = true) : rv (splf x r) = true ∧ rv (subr x r) = true ∧ (addr (splf x r) (subr x r) == x) = true ∧ (splf x r == r) = true := by
  have h1 := rv_iff.1 hx
  have h2 := rv_iff.1 hr
  simp only [splf, subr, addr, hx, hr, rv_mod, Bool.and_self, if_true, beq_iff_eq, true_and, and_true]
  omega
theorem split_bad {x r : Int} (h : rv x = false ∨ rv r = false) : rv (splf x r) = false ∧ rv (subr x r) = false ∧ (splf x r == -1) = true ∧ (subr x r == -1) = true := by
  have e1 : splf x r = -1 := by rcases h with h | h <;> simp [splf, h]
  have e2 : subr x r = -1 := by rcases h with h | h <;> simp [subr, h]
  rw [e1, e2]; decide
theorem join_yes {a b : Int} (ha : rv a = true) (hb : rv b = true) : 0 ≤ addr a b ∧ (addr b a == addr a b) = true ∧ splf (addr a b) a = a ∧ subr (addr a b) a = b := by
  have h1 := rv_iff.1 ha
  have h2 := rv_iff.1 hb
  simp only [splf, subr, addr, ha, hb, rv_mod, Bool.and_self, if_true, beq_iff_eq, true_and]
  omega
end Go.Proofs.Ythcochdkclmejaa
