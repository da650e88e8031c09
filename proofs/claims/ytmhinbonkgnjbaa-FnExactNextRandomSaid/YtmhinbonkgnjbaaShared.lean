/- The contracts of the shared numbers' functions, of the program and of the reference: each returns what the plain definition says and makes new memory at most. Conditions: none beyond integers of 64 bits. -/
import Derived.Test.YtmhinbonkgnjbaaRing
namespace Go.Proofs.Ytmhinbonkgnjbaa
open Go Go.RowKit

theorem bcell {W w1 : World} (hb : Below W.heap.size W w1) : (∀ b o, b < W.heap.size → w1.cell? ⟨b, o, none⟩ = W.cell? ⟨b, o, none⟩) ∧ (∀ b o, b < W.heap.size → w1.frozen? ⟨b, o, none⟩ = W.frozen? ⟨b, o, none⟩) :=
  ⟨fun b o h => hb.cell (p := ⟨b, o, none⟩) h, fun b o h => hb.frozen (p := ⟨b, o, none⟩) h⟩
theorem bt {w W w1 : World} (h : Below w.heap.size w W) (hb : Below W.heap.size W w1) : Below w.heap.size w w1 := h.trans (hb.mono h.size)

/-- What the walk is told of a slice of integers that came in: it is nil; or it leads to a row of 'cap' cells, the numbers 'zs' (the first 'len' are its elements), each fitting its kind. -/
def IsRow (k : IntKind) (w : World) (a : Option Addr) (len cap : Nat) (zs : List Int) : Prop :=
  (a = none ∧ len = 0 ∧ cap = 0 ∧ zs = []) ∨
  ∃ x, a = some x ∧ len ≤ cap ∧ cap ≤ maxLen ∧ zs.length = cap ∧ (∀ i, i < zs.length → w.cell? (x.add i) = some (.int k (zs.getD i 0))) ∧ ∀ n ∈ zs, (Lit.int k n).wf = true

theorem toShared (a b : Int) (w : World) : Calls Try.prog 20 #[.agg #[.int .i64 a, .int .i64 b]] w fun e w' => e = .returned (.agg #[.int .i64 a, .int .i64 b]) ∧ Below w.heap.size w w' := by
  go_enter Try.func20, Try.ntmps20
  go_wp2
  exact bodyPost_ret (v := .agg #[.int .i64 a, .int .i64 b]) (by simp [results, Try.results20, go_sem]) rfl ⟨rfl, by repeat (first | exact Below.refl _ _ | (refine Below.alloc ?_ (by first | omega | (simp; done) | (simp; omega)) _) | (refine Below.setCell ?_ (by first | omega | (simp; done) | (simp; omega)) _))⟩
theorem sharedValid (a b : Int) (w : World) : Calls Try.prog 21 #[.agg #[.int .i64 a, .int .i64 b]] w fun e w' => e = .returned (.bool (rv a && rv b)) ∧ Below w.heap.size w w' := by
  by_cases ha : rv a = true
  · go_enter Try.func21, Try.ntmps21
    go_wp2_with (go_at_call 18; refine (ringValid _ _).mono ?_; rintro e w' ⟨rfl, rfl⟩)
    go_ret
    exact ⟨ret_bool (by simp [ha]), (Below.refl _ _).alloc (Nat.le_refl _) _⟩
  · have ha' : rv a = false := by simpa using ha
    go_enter Try.func21, Try.ntmps21
    go_wp2_with (go_at_call 18; refine (ringValid _ _).mono ?_; rintro e w' ⟨rfl, rfl⟩)
    go_ret
    exact ⟨ret_bool (by simp [ha']), (Below.refl _ _).alloc (Nat.le_refl _) _⟩
theorem sharedValid_s (a b : Int) (w : World) : Calls Try.prog 19 #[.agg #[.int .i64 a, .int .i64 b]] w fun e w' => e = .returned (.bool (rv a && rv b)) ∧ Below w.heap.size w w' := by
  by_cases ha : rv a = true
  · go_enter Try.func19, Try.ntmps19
    go_wp2_with (go_at_call 17; refine (ringValid_s _ _).mono ?_; rintro e w' ⟨rfl, rfl⟩)
    go_ret
    exact ⟨ret_bool (by simp [ha]), (Below.refl _ _).alloc (Nat.le_refl _) _⟩
  · have ha' : rv a = false := by simpa using ha
    go_enter Try.func19, Try.ntmps19
    go_wp2_with (go_at_call 17; refine (ringValid_s _ _).mono ?_; rintro e w' ⟨rfl, rfl⟩)
    go_ret
    exact ⟨ret_bool (by simp [ha']), (Below.refl _ _).alloc (Nat.le_refl _) _⟩
theorem joinShares (a b : Int) (w : World) : Calls Try.prog 33 #[.agg #[.int .i64 a, .int .i64 b]] w fun e w' => e = .returned (.int .i64 (addr a b)) ∧ Below w.heap.size w w' := by
  go_enter Try.func33, Try.ntmps33
  go_wp2_with (go_at_call 25; refine (addRing _ _ _).mono ?_; rintro e w' ⟨rfl, rfl⟩)
  go_ret
  exact ⟨rfl, (Below.refl _ _).alloc (Nat.le_refl _) _⟩
theorem joinShares_s (a b : Int) (w : World) : Calls Try.prog 32 #[.agg #[.int .i64 a, .int .i64 b]] w fun e w' => e = .returned (.int .i64 (addr a b)) ∧ Below w.heap.size w w' := by
  go_enter Try.func32, Try.ntmps32
  go_wp2_with (go_at_call 24; refine (addRing_s _ _ _).mono ?_; rintro e w' ⟨rfl, rfl⟩)
  go_ret
  exact ⟨rfl, (Below.refl _ _).alloc (Nat.le_refl _) _⟩
theorem noShares (w : World) : Calls Try.prog 43 #[] w fun e w' => e = .returned (.agg #[.int .i64 (-1), .int .i64 (-1)]) ∧ Below w.heap.size w w' := by
  go_enter Try.func43, Try.ntmps43
  go_wp2
  exact bodyPost_ret (v := .agg #[.int .i64 (-1), .int .i64 (-1)]) (by simp [results, Try.results43, go_sem]) rfl ⟨rfl, by repeat (first | exact Below.refl _ _ | (refine Below.alloc ?_ (by first | omega | (simp; done) | (simp; omega)) _) | (refine Below.setCell ?_ (by first | omega | (simp; done) | (simp; omega)) _))⟩
theorem splitNumber (x r : Int) (w : World) : Calls Try.prog 35 #[.int .i64 x, .int .i64 r] w fun e w' => e = .returned (.agg #[.int .i64 (splf x r), .int .i64 (subr x r)]) ∧ Below w.heap.size w w' := by
  by_cases ha : rv x = true
  · by_cases hb : rv r = true
    · have e1 : splf x r = r := by simp [splf, ha, hb]
      have e2 : subr x r = (x - r) % 4096 := by simp [subr, ha, hb]
      have hxb := rv_iff.1 ha
      have hrb := rv_iff.1 hb
      rw [e1, e2]
      have E2 : Hid (subr x r = (x - r) % 4096) := e2
      clear e1 e2
      go_enter Try.func35, Try.ntmps35
      go_wp2_with (first | (go_at_call 18; refine (ringValid _ _).mono ?_; rintro e w' ⟨rfl, rfl⟩) | (go_at_call 29; refine (subRing _ _ _).mono ?_; rintro e w' ⟨rfl, rfl⟩))
      exact bodyPost_ret (v := .agg #[.int .i64 r, .int .i64 ((x - r) % 4096)]) (by simp [results, Try.results35, go_sem, E2.out]) rfl ⟨rfl, by repeat (first | exact Below.refl _ _ | (refine Below.alloc ?_ (by first | omega | (simp; done) | (simp; omega)) _) | (refine Below.setCell ?_ (by first | omega | (simp; done) | (simp; omega)) _) | refine bt ?_ (by assumption))⟩
    · have hb' : rv r = false := by simpa using hb
      have e1 : splf x r = -1 := by simp [splf, hb']
      have e2 : subr x r = -1 := by simp [subr, hb']
      rw [e1, e2]
      clear e1 e2
      go_enter Try.func35, Try.ntmps35
      go_wp2_with (first | (go_at_call 18; refine (ringValid _ _).mono ?_; rintro e w' ⟨rfl, rfl⟩) | (go_at_call 43; refine (noShares _).mono ?_; rintro e w' ⟨rfl, hb1⟩; obtain ⟨hc, hf⟩ := bcell hb1; have hz := hb1.size; simp at hz))
      exact bodyPost_ret (v := .agg #[.int .i64 (-1), .int .i64 (-1)]) (by simp [results, Try.results35, go_sem, hc]) rfl ⟨rfl, by repeat (first | exact Below.refl _ _ | (refine Below.alloc ?_ (by first | omega | (simp; done) | (simp; omega)) _) | (refine Below.setCell ?_ (by first | omega | (simp; done) | (simp; omega)) _) | refine bt ?_ (by assumption))⟩
  · have ha' : rv x = false := by simpa using ha
    have e1 : splf x r = -1 := by simp [splf, ha']
    have e2 : subr x r = -1 := by simp [subr, ha']
    rw [e1, e2]
    clear e1 e2
    go_enter Try.func35, Try.ntmps35
    go_wp2_with (first | (go_at_call 18; refine (ringValid _ _).mono ?_; rintro e w' ⟨rfl, rfl⟩) | (go_at_call 43; refine (noShares _).mono ?_; rintro e w' ⟨rfl, hb1⟩; obtain ⟨hc, hf⟩ := bcell hb1; have hz := hb1.size; simp at hz))
    exact bodyPost_ret (v := .agg #[.int .i64 (-1), .int .i64 (-1)]) (by simp [results, Try.results35, go_sem, hc]) rfl ⟨rfl, by repeat (first | exact Below.refl _ _ | (refine Below.alloc ?_ (by first | omega | (simp; done) | (simp; omega)) _) | (refine Below.setCell ?_ (by first | omega | (simp; done) | (simp; omega)) _) | refine bt ?_ (by assumption))⟩
theorem splitNumber_s (x r : Int) (w : World) : Calls Try.prog 34 #[.int .i64 x, .int .i64 r] w fun e w' => e = .returned (.agg #[.int .i64 (splf x r), .int .i64 (subr x r)]) ∧ Below w.heap.size w w' := by
  by_cases ha : rv x = true
  · by_cases hb : rv r = true
    · have e1 : splf x r = r := by simp [splf, ha, hb]
      have e2 : subr x r = (x - r) % 4096 := by simp [subr, ha, hb]
      have hxb := rv_iff.1 ha
      have hrb := rv_iff.1 hb
      rw [e1, e2]
      have E2 : Hid (subr x r = (x - r) % 4096) := e2
      clear e1 e2
      go_enter Try.func34, Try.ntmps34
      go_wp2_with (first | (go_at_call 17; refine (ringValid_s _ _).mono ?_; rintro e w' ⟨rfl, rfl⟩) | (go_at_call 39; refine (l1Ring _ _).mono ?_; rintro e w' ⟨rfl, rfl⟩))
      exact bodyPost_ret (v := .agg #[.int .i64 r, .int .i64 ((x - r) % 4096)]) (by simp [results, Try.results34, go_sem]) rfl ⟨rfl, by repeat (first | exact Below.refl _ _ | (refine Below.alloc ?_ (by first | omega | (simp; done) | (simp; omega)) _) | (refine Below.setCell ?_ (by first | omega | (simp; done) | (simp; omega)) _) | refine bt ?_ (by assumption))⟩
    · have hb' : rv r = false := by simpa using hb
      have e1 : splf x r = -1 := by simp [splf, hb']
      have e2 : subr x r = -1 := by simp [subr, hb']
      rw [e1, e2]
      clear e1 e2
      go_enter Try.func34, Try.ntmps34
      go_wp2_with (go_at_call 17; refine (ringValid_s _ _).mono ?_; rintro e w' ⟨rfl, rfl⟩)
      exact bodyPost_ret (v := .agg #[.int .i64 (-1), .int .i64 (-1)]) (by simp [results, Try.results34, go_sem]) rfl ⟨rfl, by repeat (first | exact Below.refl _ _ | (refine Below.alloc ?_ (by first | omega | (simp; done) | (simp; omega)) _) | (refine Below.setCell ?_ (by first | omega | (simp; done) | (simp; omega)) _) | refine bt ?_ (by assumption))⟩
  · have ha' : rv x = false := by simpa using ha
    have e1 : splf x r = -1 := by simp [splf, ha']
    have e2 : subr x r = -1 := by simp [subr, ha']
    rw [e1, e2]
    clear e1 e2
    go_enter Try.func34, Try.ntmps34
    go_wp2_with (go_at_call 17; refine (ringValid_s _ _).mono ?_; rintro e w' ⟨rfl, rfl⟩)
    exact bodyPost_ret (v := .agg #[.int .i64 (-1), .int .i64 (-1)]) (by simp [results, Try.results34, go_sem]) rfl ⟨rfl, by repeat (first | exact Below.refl _ _ | (refine Below.alloc ?_ (by first | omega | (simp; done) | (simp; omega)) _) | (refine Below.setCell ?_ (by first | omega | (simp; done) | (simp; omega)) _) | refine bt ?_ (by assumption))⟩
theorem eqShared (a b : Int) (w : World) : Calls Try.prog 36 #[.agg #[.int .i64 a, .int .i64 b], .agg #[.int .i64 a, .int .i64 b]] w fun e w' => e = .returned (.bool true) ∧ Below w.heap.size w w' := by
  go_enter Try.func36, Try.ntmps36
  go_wp2
  go_ret
  exact ⟨rfl, by repeat (first | exact Below.refl _ _ | (refine Below.alloc ?_ (by first | omega | (simp; done) | (simp; omega)) _) | (refine Below.setCell ?_ (by first | omega | (simp; done) | (simp; omega)) _) | refine bt ?_ (by assumption))⟩
end Go.Proofs.Ytmhinbonkgnjbaa
