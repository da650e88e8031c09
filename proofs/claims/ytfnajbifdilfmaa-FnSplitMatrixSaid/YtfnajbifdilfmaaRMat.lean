/- The contracts of RandomMatrix, of the program and of the reference, for all arguments. Conditions: none. -/
import Derived.Test.YtfnajbifdilfmaaRListC
import Derived.Test.YtfnajbifdilfmaaPair
namespace Go.Proofs.Ytfnajbifdilfmaa
open Go Go.RowKit

/-- Whether a matrix is made; its numbers; the last seed. -/
def mok (r c s : Int) : Bool := sd r && sd c && sv s
def mL (r c s : Int) : List Int := if mok r c s then rL s (r * c) else []
def mZ (r c s : Int) : Int := if mok r c s then rZ s (r * c) else 0
/-- A matrix in new memory and a number are returned. -/
def RetMZ (w : World) (R C : Int) (l : List Int) (z : Int) (e : Ending) (w' : World) : Prop :=
  ∃ (a : Option Addr) (cap : Nat), e = .returned (.tuple #[.agg #[.int .i64 R, .int .i64 C, .slice a l.length cap], .int .i64 z]) ∧ w'.ownsRow w.heap.size 3 1 (.slice a l.length cap) l.length (ints l) ∧ w.grownBy w' none
theorem sidew (q : Bool) (n : Int) (w : World) (h : sd n = q) : Calls Try.prog 71 #[.int .i64 n] w fun e w' => e = .returned (.bool q) ∧ w = w' := by
  subst h; exact sideValid n w
theorem mok_parts {r c s : Int} (hr : sd r = true) (hc : sd c = true) (hs : sv s = true) : rok s (r * c) = true ∧ 0 ≤ r * c ∧ r * c ≤ 25 ∧ rL s (r * c) = rlist s (r * c).toNat ∧ rZ s (r * c) = rseed s (r * c).toNat := by
  have h1 := sd_iff.1 hr
  have h2 := sd_iff.1 hc
  have h3 := sq_bd (a := r) (b := c) (M := 5) (by omega) (by omega) (by omega) (by omega)
  have hk : rok s (r * c) = true := by simp [rok, hs]; omega
  exact ⟨hk, h3.1, h3.2, by simp [rL, hk], by simp [rZ, hk]⟩
theorem mL_len (r c s : Int) : (mL r c s).length ≤ 4096 := by
  unfold mL
  split
  · exact rL_len _ _
  · simp
set_option maxHeartbeats 800000 in
theorem randomMatrix (r c s : Int) (w : World) : Calls Try.prog 78 #[.int .i64 r, .int .i64 c, .int .i64 s] w (RetMZ w (pN (mok r c s) r) (pN (mok r c s) c) (mL r c s) (mZ r c s)) := by
  have T1 := Three.new w (.int .i64 0) (.int .i64 0) (.slice none 0 0) 26
  have G0 : w.grownBy (w.alloc (.cells #[.int .i64 0, .int .i64 0, .slice none 0 0] 26)) none := World.grownBy_alloc _ _ _
  by_cases hr : sd r = true
  · skip
    by_cases hc : sd c = true
    · skip
      by_cases hs : sv s = true
      · skip
        have hq : mok r c s = true := by simp [mok, hr, hc, hs]
        obtain ⟨hk, b0, b1, e3, e4⟩ := mok_parts hr hc hs
        have e1 : mL r c s = rL s (r * c) := by simp [mL, hq]
        have e2 : mZ r c s = rZ s (r * c) := by simp [mZ, hq]
        rw [hq, e1, e2]
        have ew : IntKind.i64.wrap (r * c) = r * c := by rw [IntKind.wrap_i64]; omega
        have C1 := randomList s (r * c) (w.alloc (.cells #[.int .i64 0, .int .i64 0, .slice none 0 0] 26))
        generalize rL s (r * c) = l at *
        generalize rZ s (r * c) = z at *
        replace C1 := Lib.hid C1
        have HR := Lib.hid hr
        have HC := Lib.hid hc
        have HS := Lib.hid hs
        clear hq hk e1 e2 e3 e4 hr hc hs
        go_enter Try.func78, Try.ntmps78
        go_wp2_with fail
        refine (sidew true _ _ HR.out).mono ?_
        rintro e w' ⟨rfl, rfl⟩
        go_wp2_with fail
        refine (sidew true _ _ HC.out).mono ?_
        rintro e w' ⟨rfl, rfl⟩
        go_wp2_with fail
        refine (seedw true _ _ HS.out).mono ?_
        rintro e w' ⟨rfl, rfl⟩
        go_wp2_with fail
        refine C1.out.mono ?_
        rintro e w1 ⟨a, cap, rfl, ho, hg⟩
        replace T1 := T1.kept hg (by simp)
        replace G0 := gbt G0 hg
        clear hg
        simp at ho
        obtain ⟨q0, q1, q2, q3, q4, q5⟩ := T1
        go_wp2_with fail
        exact bodyPost_ret (v := .tuple #[.agg #[.int .i64 r, .int .i64 c, .slice a l.length cap], .int .i64 z]) (by simp [results, Try.results78, go_sem, q0, q1, q2]) rfl
          ⟨a, cap, rfl, own_base (b := w.heap.size + 1) (by repeat (with_reducible first | exact ho | (refine ownsRow_setCell_below ?_ (by show w.heap.size < w.heap.size + 1; omega) _))) (by omega), by repeat (with_reducible first | exact G0 | (refine gb_setNew ?_ (by omega) _ _))⟩
      · replace hs : sv s = false := by simpa using hs
        have hq : mok r c s = false := by simp [mok, hs]
        have e1 : mL r c s = [] := by simp [mL, hq]
        have e2 : mZ r c s = 0 := by simp [mZ, hq]
        rw [hq, e1, e2]
        clear hq e1 e2
        go_enter Try.func78, Try.ntmps78
        go_wp2_with fail
        refine (sidew true _ _ hr).mono ?_
        rintro e w' ⟨rfl, rfl⟩
        go_wp2_with fail
        refine (sidew true _ _ hc).mono ?_
        rintro e w' ⟨rfl, rfl⟩
        go_wp2_with fail
        refine (seedw false _ _ hs).mono ?_
        rintro e w' ⟨rfl, rfl⟩
        obtain ⟨q0, q1, q2, q3, q4, q5⟩ := T1
        go_wp2_with fail
        exact bodyPost_ret (v := .tuple #[.agg #[.int .i64 0, .int .i64 0, .slice none 0 0], .int .i64 0]) (by simp [results, Try.results78, go_sem, q0, q1, q2]) rfl ⟨none, 0, rfl, World.ownsRow_nil _ _ _ _, by repeat (with_reducible first | exact G0 | (refine gb_setNew ?_ (by omega) _ _))⟩
    · replace hc : sd c = false := by simpa using hc
      have hq : mok r c s = false := by simp [mok, hc]
      have e1 : mL r c s = [] := by simp [mL, hq]
      have e2 : mZ r c s = 0 := by simp [mZ, hq]
      rw [hq, e1, e2]
      clear hq e1 e2
      go_enter Try.func78, Try.ntmps78
      go_wp2_with fail
      refine (sidew true _ _ hr).mono ?_
      rintro e w' ⟨rfl, rfl⟩
      go_wp2_with fail
      refine (sidew false _ _ hc).mono ?_
      rintro e w' ⟨rfl, rfl⟩
      obtain ⟨q0, q1, q2, q3, q4, q5⟩ := T1
      go_wp2_with fail
      exact bodyPost_ret (v := .tuple #[.agg #[.int .i64 0, .int .i64 0, .slice none 0 0], .int .i64 0]) (by simp [results, Try.results78, go_sem, q0, q1, q2]) rfl ⟨none, 0, rfl, World.ownsRow_nil _ _ _ _, by repeat (with_reducible first | exact G0 | (refine gb_setNew ?_ (by omega) _ _))⟩
  · replace hr : sd r = false := by simpa using hr
    have hq : mok r c s = false := by simp [mok, hr]
    have e1 : mL r c s = [] := by simp [mL, hq]
    have e2 : mZ r c s = 0 := by simp [mZ, hq]
    rw [hq, e1, e2]
    clear hq e1 e2
    go_enter Try.func78, Try.ntmps78
    go_wp2_with fail
    refine (sidew false _ _ hr).mono ?_
    rintro e w' ⟨rfl, rfl⟩
    obtain ⟨q0, q1, q2, q3, q4, q5⟩ := T1
    go_wp2_with fail
    exact bodyPost_ret (v := .tuple #[.agg #[.int .i64 0, .int .i64 0, .slice none 0 0], .int .i64 0]) (by simp [results, Try.results78, go_sem, q0, q1, q2]) rfl ⟨none, 0, rfl, World.ownsRow_nil _ _ _ _, by repeat (with_reducible first | exact G0 | (refine gb_setNew ?_ (by omega) _ _))⟩
set_option maxHeartbeats 800000 in
theorem randomMatrix_sg (r c s : Int) (w : World) : Calls Try.prog 80 #[.int .i64 r, .int .i64 c, .int .i64 s] w (RetMZ w (pN (mok r c s) r) (pN (mok r c s) c) (mL r c s) (mZ r c s)) := by
  have T1 := Three.new w (.int .i64 0) (.int .i64 0) (.slice none 0 0) 26
  have G0 : w.grownBy (w.alloc (.cells #[.int .i64 0, .int .i64 0, .slice none 0 0] 26)) none := World.grownBy_alloc _ _ _
  by_cases hs : sv s = true
  · skip
    by_cases hr : sd r = true
    · skip
      by_cases hc : sd c = true
      · skip
        have hq : mok r c s = true := by simp [mok, hr, hc, hs]
        obtain ⟨hk, b0, b1, e3, e4⟩ := mok_parts hr hc hs
        have e1 : mL r c s = rL s (r * c) := by simp [mL, hq]
        have e2 : mZ r c s = rZ s (r * c) := by simp [mZ, hq]
        rw [hq, e1, e2]
        have ew : IntKind.i64.wrap (r * c) = r * c := by rw [IntKind.wrap_i64]; omega
        obtain ⟨n, hn⟩ := Int.eq_ofNat_of_zero_le b0
        have C1 := l4List s n (by have := sv_iff.1 hs; omega) (by omega) (w.alloc (.cells #[.int .i64 0, .int .i64 0, .slice none 0 0] 26))
        have hl4 : (rL s (r * c)).length = n := by rw [e3, rlist_len, hn]; rfl
        rw [hn] at e3 e4
        simp only [Int.toNat_natCast] at e3 e4
        rw [← hn] at e3 e4 C1
        rw [← e3, ← e4] at C1
        clear hn
        generalize rL s (r * c) = l at *
        generalize rZ s (r * c) = z at *
        replace C1 := Lib.hid C1
        have HR := Lib.hid hr
        have HC := Lib.hid hc
        have HS := Lib.hid hs
        clear hq hk e1 e2 e3 e4 hr hc hs
        go_enter Try.func80, Try.ntmps80
        go_wp2_with fail
        refine (l1Inw true _ _ _ _ (by simpa using sv_iff.1 HS.out)).mono ?_
        rintro e w' ⟨rfl, rfl⟩
        go_wp2_with fail
        refine (l1Inw true _ _ _ _ (by simpa using sd_iff.1 HR.out)).mono ?_
        rintro e w' ⟨rfl, rfl⟩
        go_wp2_with fail
        refine (l1Inw true _ _ _ _ (by simpa using sd_iff.1 HC.out)).mono ?_
        rintro e w' ⟨rfl, rfl⟩
        go_wp2_with fail
        refine C1.out.mono ?_
        rintro e w1 ⟨v, rfl, ho, hbl⟩
        have hg := below_gb hbl
        obtain ⟨a, cap, rfl⟩ := own_slice ho
        clear hbl C1
        subst hl4
        replace T1 := T1.kept hg (by simp)
        replace G0 := gbt G0 hg
        clear hg
        simp at ho
        obtain ⟨q0, q1, q2, q3, q4, q5⟩ := T1
        go_wp2_with fail
        exact bodyPost_ret (v := .tuple #[.agg #[.int .i64 r, .int .i64 c, .slice a l.length cap], .int .i64 z]) (by simp [results, Try.results80, go_sem, q0, q1, q2]) rfl
          ⟨a, cap, rfl, own_base (b := w.heap.size + 1) (by repeat (with_reducible first | exact ho | (refine ownsRow_setCell_below ?_ (by show w.heap.size < w.heap.size + 1; omega) _))) (by omega), by repeat (with_reducible first | exact G0 | (refine gb_setNew ?_ (by omega) _ _))⟩
      · replace hc : sd c = false := by simpa using hc
        have hq : mok r c s = false := by simp [mok, hc]
        have e1 : mL r c s = [] := by simp [mL, hq]
        have e2 : mZ r c s = 0 := by simp [mZ, hq]
        rw [hq, e1, e2]
        clear hq e1 e2
        go_enter Try.func80, Try.ntmps80
        go_wp2_with fail
        refine (l1Inw true _ _ _ _ (by simpa using sv_iff.1 hs)).mono ?_
        rintro e w' ⟨rfl, rfl⟩
        go_wp2_with fail
        refine (l1Inw true _ _ _ _ (by simpa using sd_iff.1 hr)).mono ?_
        rintro e w' ⟨rfl, rfl⟩
        go_wp2_with fail
        refine (l1Inw false _ _ _ _ (by have := sd_no.1 hc; simp; omega)).mono ?_
        rintro e w' ⟨rfl, rfl⟩
        obtain ⟨q0, q1, q2, q3, q4, q5⟩ := T1
        go_wp2_with fail
        exact bodyPost_ret (v := .tuple #[.agg #[.int .i64 0, .int .i64 0, .slice none 0 0], .int .i64 0]) (by simp [results, Try.results80, go_sem, q0, q1, q2]) rfl ⟨none, 0, rfl, World.ownsRow_nil _ _ _ _, by repeat (with_reducible first | exact G0 | (refine gb_setNew ?_ (by omega) _ _))⟩
    · replace hr : sd r = false := by simpa using hr
      have hq : mok r c s = false := by simp [mok, hr]
      have e1 : mL r c s = [] := by simp [mL, hq]
      have e2 : mZ r c s = 0 := by simp [mZ, hq]
      rw [hq, e1, e2]
      clear hq e1 e2
      go_enter Try.func80, Try.ntmps80
      go_wp2_with fail
      refine (l1Inw true _ _ _ _ (by simpa using sv_iff.1 hs)).mono ?_
      rintro e w' ⟨rfl, rfl⟩
      go_wp2_with fail
      refine (l1Inw false _ _ _ _ (by have := sd_no.1 hr; simp; omega)).mono ?_
      rintro e w' ⟨rfl, rfl⟩
      obtain ⟨q0, q1, q2, q3, q4, q5⟩ := T1
      go_wp2_with fail
      exact bodyPost_ret (v := .tuple #[.agg #[.int .i64 0, .int .i64 0, .slice none 0 0], .int .i64 0]) (by simp [results, Try.results80, go_sem, q0, q1, q2]) rfl ⟨none, 0, rfl, World.ownsRow_nil _ _ _ _, by repeat (with_reducible first | exact G0 | (refine gb_setNew ?_ (by omega) _ _))⟩
  · replace hs : sv s = false := by simpa using hs
    have hq : mok r c s = false := by simp [mok, hs]
    have e1 : mL r c s = [] := by simp [mL, hq]
    have e2 : mZ r c s = 0 := by simp [mZ, hq]
    rw [hq, e1, e2]
    clear hq e1 e2
    go_enter Try.func80, Try.ntmps80
    go_wp2_with fail
    refine (l1Inw false _ _ _ _ (by have := sv_no.1 hs; simp; omega)).mono ?_
    rintro e w' ⟨rfl, rfl⟩
    obtain ⟨q0, q1, q2, q3, q4, q5⟩ := T1
    go_wp2_with fail
    exact bodyPost_ret (v := .tuple #[.agg #[.int .i64 0, .int .i64 0, .slice none 0 0], .int .i64 0]) (by simp [results, Try.results80, go_sem, q0, q1, q2]) rfl ⟨none, 0, rfl, World.ownsRow_nil _ _ _ _, by repeat (with_reducible first | exact G0 | (refine gb_setNew ?_ (by omega) _ _))⟩
end Go.Proofs.Ytfnajbifdilfmaa
