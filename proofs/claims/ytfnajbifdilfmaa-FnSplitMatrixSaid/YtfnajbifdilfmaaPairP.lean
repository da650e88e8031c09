/- Plain laws of sums and differences of matrices, and their contracts with the arguments exchanged. Conditions: at most 2 to the 20 values for the reference's. -/
import Derived.Test.YtfnajbifdilfmaaPairS
namespace Go.Proofs.Ytfnajbifdilfmaa
open Go Go.RowKit

theorem lk_comm (r c : Int) (xs : List Int) (r' c' : Int) (ys : List Int) : lk r' c' ys r c xs = lk r c xs r' c' ys := by
  rw [Bool.eq_iff_iff, lk_iff, lk_iff]
  constructor <;> (rintro ⟨a, b, c, d⟩; exact ⟨b, a, c.symm, d.symm⟩)
theorem mv_zip {f : Int → Int → Int} (hf : ∀ {a b : Int}, rv a = true → rv b = true → rv (f a b) = true) {r c : Int} {xs ys : List Int} (h1 : mv r c xs = true) (h2 : mv r c ys = true) : mv r c (List.zipWith f xs ys) = true := by
  obtain ⟨a1, a2, a3, a4⟩ := mv_iff.1 h1
  obtain ⟨_, _, b3, b4⟩ := mv_iff.1 h2
  refine mv_iff.2 ⟨a1, a2, by rw [List.length_zipWith]; omega, ?_⟩
  intro x hx
  obtain ⟨i, hi, rfl⟩ := List.mem_iff_getElem.1 hx
  rw [List.getElem_zipWith]
  exact hf (a4 _ (List.getElem_mem _)) (b4 _ (List.getElem_mem _))
theorem add_swap (r c r' c' : Int) (v v' : Value) (xs ys : List Int) (w : World) (h : Sees w v xs) (h' : Sees w v' ys) :
    Calls Try.prog 22 #[.agg #[.int .i64 r', .int .i64 c', v'], .agg #[.int .i64 r, .int .i64 c, v]] w (RetM w (pN (lk r c xs r' c' ys) r) (pN (lk r c xs r' c' ys) c) (pV (lk r c xs r' c' ys) (addL xs ys))) := by
  have h1 := addMatrices r' c' r c v' v ys xs w h' h
  rw [lk_comm] at h1
  cases hq : lk r c xs r' c' ys with
  | false => rw [hq] at h1; exact h1
  | true =>
    obtain ⟨_, _, rfl, rfl⟩ := lk_iff.1 hq
    rw [hq, addL_comm ys xs] at h1
    exact h1
theorem lk_len {r c r' c' : Int} {xs ys : List Int} (h : lk r c xs r' c' ys = true) : xs.length = ys.length ∧ 1 ≤ r ∧ (∀ x ∈ xs, rv x = true) ∧ (∀ y ∈ ys, rv y = true) := by
  obtain ⟨m1, m2, rfl, rfl⟩ := lk_iff.1 h
  obtain ⟨a1, _, a3, a4⟩ := mv_iff.1 m1
  obtain ⟨_, _, b3, b4⟩ := mv_iff.1 m2
  exact ⟨by omega, (sd_iff.1 a1).1, a4, b4⟩
theorem add_back (r c r' c' : Int) (v v' : Value) (xs ys : List Int) (w : World) (hq : lk r c xs r' c' ys = true) (h : Sees w v (addL xs ys)) (h' : Sees w v' ys) :
    Calls Try.prog 24 #[.agg #[.int .i64 r, .int .i64 c, v], .agg #[.int .i64 r', .int .i64 c', v']] w (RetM w r c xs) := by
  obtain ⟨hl, _, hx, hy⟩ := lk_len hq
  obtain ⟨m1, m2, rfl, rfl⟩ := lk_iff.1 hq
  have h1 := subMatrices r c r c v v' (addL xs ys) ys w h h'
  rw [show lk r c (addL xs ys) r c ys = true from lk_iff.2 ⟨mv_zip addr_rv m1 m2, m2, rfl, rfl⟩, subL_addL hl hx hy] at h1
  exact h1
theorem sub_back (r c r' c' : Int) (v v' : Value) (xs ys : List Int) (w : World) (hq : lk r c xs r' c' ys = true) (h : Sees w v (subL xs ys)) (h' : Sees w v' ys) :
    Calls Try.prog 22 #[.agg #[.int .i64 r, .int .i64 c, v], .agg #[.int .i64 r', .int .i64 c', v']] w (RetM w r c xs) := by
  obtain ⟨hl, _, hx, hy⟩ := lk_len hq
  obtain ⟨m1, m2, rfl, rfl⟩ := lk_iff.1 hq
  have h1 := addMatrices r c r c v v' (subL xs ys) ys w h h'
  rw [show lk r c (subL xs ys) r c ys = true from lk_iff.2 ⟨mv_zip subr_rv m1 m2, m2, rfl, rfl⟩, addL_subL hl hx hy] at h1
  exact h1
end Go.Proofs.Ytfnajbifdilfmaa
