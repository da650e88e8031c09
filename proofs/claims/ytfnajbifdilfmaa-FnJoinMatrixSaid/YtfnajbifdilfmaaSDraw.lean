/- The contracts of the draws of shared matrices: two matrices in new memory, nothing that was there turned but the reader's place. Conditions: the code is a readable slice of bytes. -/
import Derived.Test.YtfnajbifdilfmaaSplit
import Derived.Test.YtfnajbifdilfmaaTwo
namespace Go.Proofs.Ytfnajbifdilfmaa
open Go Go.RowKit

theorem own_far {W : World} {b0 n B k : Nat} {v x : Value} {l : List Value} (h : W.ownsRow b0 3 1 v n l) (hne : ∀ q, v.ownBlock = some q → q ≠ B) : (W.setCell ⟨B, k, none⟩ x).ownsRow b0 3 1 v n l :=
  h.kept (gb_set W B k x) (by
    cases hv : v.ownBlock with
    | none => exact .inl rfl
    | some q => right; intro e; exact hne q hv (by simpa using e))
theorem own_row {W W' : World} {b0 n b : Nat} {v : Value} {l : List Value} (h : W.ownsRow b0 3 1 v n l) (hb : b < b0) (hg : W.grownBy W' (some b)) : W'.ownsRow b0 3 1 v n l :=
  h.kept hg (by
    cases hv : v.ownBlock with
    | none => exact .inl rfl
    | some q => right; intro e; have h1 := (h.lt _ hv).1; have h2 : q = b := by simpa using e
                omega)
/-- A shared matrix is split off a drawn matrix, or none. -/
theorem split_any (r c s : Int) (v : Value) (xs : List Int) (w : World) (h : Sees w v xs) (hn : xs.length ≤ 36) :
    Calls Try.prog 44 #[.agg #[.int .i64 r, .int .i64 c, v], .int .i64 s] w fun e w' => ∃ (r1 c1 : Int) (a1 : Option Addr) (cap1 : Nat) (x1 : List Int) (r2 c2 : Int) (a2 : Option Addr) (cap2 : Nat) (x2 : List Int) (z : Int),
      e = .returned (.tuple #[.agg #[.int .i64 r1, .int .i64 c1, .slice a1 x1.length cap1, .int .i64 r2, .int .i64 c2, .slice a2 x2.length cap2], .int .i64 z]) ∧ x1.length ≤ 36 ∧ x2.length ≤ 36 ∧
      w'.ownsRow w.heap.size 3 1 (.slice a1 x1.length cap1) x1.length (ints x1) ∧ w'.ownsRow w.heap.size 3 1 (.slice a2 x2.length cap2) x2.length (ints x2) ∧ w.grownBy w' none := by
  by_cases hq : (mv r c xs && sv s) = true
  · have hm : mv r c xs = true := by simp at hq; exact hq.1
    have hs : sv s = true := by simp at hq; exact hq.2
    refine (splitMatrix_s_yes r c s v xs w h (by omega) hm hs).mono ?_
    rintro e w' ⟨a, cap, a', cap', rfl, o1, o2, hg⟩
    have l1 : (rlist s xs.length).length = xs.length := rlist_len _ _
    have l2 : (subL xs (rlist s xs.length)).length = xs.length := by unfold subL; rw [List.length_zipWith, l1]; omega
    refine ⟨r, c, a, cap, rlist s xs.length, r, c, a', cap', subL xs (rlist s xs.length), rseed s xs.length, ?_, by omega, by omega, ?_, ?_, hg⟩
    · rw [l1, l2]
    · rw [l1]; exact o1
    · rw [l2]; exact o2
  · replace hq : (mv r c xs && sv s) = false := by simpa using hq
    refine (splitMatrix_s_no r c s v xs w h (by omega) hq).mono ?_
    rintro e w' ⟨rfl, hg⟩
    exact ⟨0, 0, none, 0, [], 0, 0, none, 0, [], 0, rfl, by simp, by simp, World.ownsRow_nil _ _ _ _, World.ownsRow_nil _ _ _ _, hg⟩
/-- A shared matrix in new memory behind the block b0. -/
def GivesSM (a : Option Addr) (n cap : Nat) (w0 w : World) (b P : Nat) (e : Ending) (w' : World) : Prop :=
  ∃ (r1 c1 : Int) (a1 : Option Addr) (cap1 : Nat) (x1 : List Int) (r2 c2 : Int) (a2 : Option Addr) (cap2 : Nat) (x2 : List Int),
    e = .returned (.agg #[.int .i64 r1, .int .i64 c1, .slice a1 x1.length cap1, .int .i64 r2, .int .i64 c2, .slice a2 x2.length cap2]) ∧ x1.length ≤ 36 ∧ x2.length ≤ 36 ∧
    w'.ownsRow w.heap.size 3 1 (.slice a1 x1.length cap1) x1.length (ints x1) ∧ w'.ownsRow w.heap.size 3 1 (.slice a2 x2.length cap2) x2.length (ints x2) ∧ Rd a n cap w0 w' b P ∧ w.grownBy w' (some b)
set_option maxHeartbeats 3200000 in
theorem l20SharedMatrix {a : Option Addr} {n cap : Nat} {w0 w : World} {b P : Nat} (hr : Rd a n cap w0 w b P) (hP : P < 700000) (r c m : Int) (hr1 : 1 ≤ r ∧ r ≤ 5) (hc1 : 1 ≤ c ∧ c ≤ 5) (hm : 0 ≤ m ∧ m ≤ 4294967296) :
    Calls Try.prog 73 #[.pointer (some ⟨b, 0, none⟩), .int .i64 r, .int .i64 c, .int .i64 m] w (GivesSM a n cap w0 w b (P + 2000)) := by
  have T8 := Six.new w (.int .i64 0) (.int .i64 0) (.slice none 0 0) (.int .i64 0) (.int .i64 0) (.slice none 0 0) 40
  have hG : w.grownBy (w.alloc (.cells #[.int .i64 0, .int .i64 0, .slice none 0 0, .int .i64 0, .int .i64 0, .slice none 0 0] 40)) (some b) := World.grownBy_alloc _ _ _
  have ha := hr.alloc (.cells #[.int .i64 0, .int .i64 0, .slice none 0 0, .int .i64 0, .int .i64 0, .slice none 0 0] 40)
  have hb := hr.b_lt
  have hz0 := hr.below.size
  have ht := tmod5 r hr1.1
  have ew1 : IntKind.i64.wrap (r.tmod 5) = r.tmod 5 := by rw [IntKind.wrap_i64]; omega
  have ew2 : IntKind.i64.wrap (1 + r.tmod 5) = 1 + r.tmod 5 := by rw [IntKind.wrap_i64]; omega
  go_enter Try.func73, Try.ntmps73
  go_wp2_with fail
  refine (l20Matrix ha (by omega) r c 0 hr1 hc1 (by decide)).mono ?_
  rintro e w1 ⟨v, ⟨rr, cc, aa, caa, xs, rfl, ir, ic, hl, hl1, ho⟩, rfl, ha1, hg1⟩
  have m1 := hg1.size
  simp at m1
  replace T8 := T8.kept hg1 (by intro e; simp at e <;> omega)
  replace hG := gb_trans hG hg1
  have s1 := Sees.of_own ho
  have ho1 := own_base ho (b' := w.heap.size + 1) (by simp)
  clear hg1 ha ho
  go_wp2_with fail
  refine (l20Seed ha1 (by omega) 0 (by decide)).mono ?_
  rintro e w2 ⟨v, ⟨s, rfl, ls, us⟩, rfl, ha2, hg2⟩
  have m2 := hg2.size
  replace T8 := T8.kept hg2 (by intro e; simp at e <;> omega)
  replace hG := gb_trans hG hg2
  replace ho1 := own_row ho1 (by omega) hg2
  clear hg2 ha1 s1
  go_wp2_with fail
  refine (split_any _ _ _ _ xs _ (Sees.of_own ho1) hl).mono ?_
  rintro e w3 ⟨r1, c1, a1, cap1, x1, r2, c2, a2, cap2, x2, z, rfl, k1, k2, o1, o2, hg3⟩
  have m3 := hg3.size
  clear ho1
  have hb1 : ∀ q, (Value.slice a1 x1.length cap1).ownBlock = some q → q ≠ w3.heap.size := fun q e => by have := (o1.lt q e).2; omega
  have hb2 : ∀ q, (Value.slice a2 x2.length cap2).ownBlock = some q → q ≠ w3.heap.size := fun q e => by have := (o2.lt q e).2; omega
  have hgx := gbt hg3 (World.grownBy_alloc w3 (.cells #[.int .i64 r1, .int .i64 c1, .slice a1 x1.length cap1, .int .i64 r2, .int .i64 c2, .slice a2 x2.length cap2] 40) none)
  have T9 := Six.new w3 (.int .i64 r1) (.int .i64 c1) (.slice a1 x1.length cap1) (.int .i64 r2) (.int .i64 c2) (.slice a2 x2.length cap2) 40
  replace o1 := (own_base o1 (b' := w.heap.size + 1) (by omega)).alloc (.cells #[.int .i64 r1, .int .i64 c1, .slice a1 x1.length cap1, .int .i64 r2, .int .i64 c2, .slice a2 x2.length cap2] 40)
  replace o2 := (own_base o2 (b' := w.heap.size + 1) (by omega)).alloc (.cells #[.int .i64 r1, .int .i64 c1, .slice a1 x1.length cap1, .int .i64 r2, .int .i64 c2, .slice a2 x2.length cap2] 40)
  replace T8 := T8.kept hgx (by simp)
  have ha3 := ha2.kept hgx (fun _ e => by cases e)
  replace hG := gb_row0 hG hgx
  clear hg3 hgx ha2
  go_wp2_with fail
  refine (odd ha3 (by omega) m hm).mono ?_
  rintro e w4 ⟨v, ⟨o, rfl⟩, rfl, ha4, hg4⟩
  have m4 := hg4.size
  simp at m4
  replace T8 := T8.kept hg4 (by intro e; simp at e <;> omega)
  replace T9 := T9.kept hg4 (by intro e; simp at e <;> omega)
  replace o1 := own_row o1 (by omega) hg4
  replace o2 := own_row o2 (by omega) hg4
  replace hG := gb_trans hG hg4
  clear hg4 ha3
  cases o with
  | false =>
    obtain ⟨t0, t1, t2, t3, t4, t5, t6, t7, t8, t9, ta, tb⟩ := T9
    obtain ⟨q0, q1, q2, q3, q4, q5, q6, q7, q8, q9, qa, qb⟩ := T8
    have hn1 : w.heap.size ≠ w3.heap.size := by omega
    go_wp2_with fail
    exact bodyPost_ret (v := .agg #[.int .i64 r1, .int .i64 c1, .slice a1 x1.length cap1, .int .i64 r2, .int .i64 c2, .slice a2 x2.length cap2]) (by simp [results, Try.results73, go_sem, q0, q1, q2, q3, q4, q5]) rfl
      ⟨_, _, _, _, x1, _, _, _, _, x2, rfl, k1, k2, own_base (b := w.heap.size + 1) (by repeat (with_reducible first | exact o1 | refine own_far ?_ hb1 | refine ownsRow_setCell_below ?_ (by show w.heap.size < w.heap.size + 1; omega) _)) (by omega),
        own_base (b := w.heap.size + 1) (by repeat (with_reducible first | exact o2 | refine own_far ?_ hb2 | refine ownsRow_setCell_below ?_ (by show w.heap.size < w.heap.size + 1; omega) _)) (by omega),
        (by repeat (with_reducible first | exact ha4.le (by omega) | refine Rd.setNew ?_ (by omega) (by omega) _ _)), (by repeat (with_reducible first | exact hG | refine gb_setNew ?_ (by omega) _ _))⟩
  | true =>
    go_wp2_with fail
    refine (pick ha4 (by omega) 3 (by decide)).mono ?_
    rintro e w5 ⟨v, ⟨x, rfl, lx, ux⟩, rfl, ha5, hg5⟩
    have m5 := hg5.size
    replace T8 := T8.kept hg5 (by intro e; simp at e <;> omega)
    replace T9 := T9.kept hg5 (by intro e; simp at e <;> omega)
    replace o1 := own_row o1 (by omega) hg5
    replace o2 := own_row o2 (by omega) hg5
    replace hG := gb_trans hG hg5
    clear hg5 ha4
    have hx : x = 0 ∨ x = 1 ∨ x = 2 := by omega
    clear lx ux
    rcases hx with rfl | rfl | rfl
    · go_wp2_with fail
      refine (l20Matrix ha5 (by omega) r c 1 hr1 hc1 (by decide)).mono ?_
      rintro e w6 ⟨v, ⟨r3, c3, a3, cap3, x3, rfl, ir3, ic3, hl3, hl31, o3⟩, rfl, ha6, hg6⟩
      have m6 := hg6.size
      replace T8 := T8.kept hg6 (by intro e; simp at e <;> omega)
      replace T9 := T9.kept hg6 (by intro e; simp at e <;> omega)
      replace o1 := own_row o1 (by omega) hg6
      replace o2 := own_row o2 (by omega) hg6
      replace hG := gb_trans hG hg6
      have hb3 : ∀ q, (Value.slice a3 x3.length cap3).ownBlock = some q → q ≠ w3.heap.size := fun q e => by have := (o3.lt q e).1; omega
      replace o3 := own_base o3 (b' := w.heap.size + 1) (by omega)
      obtain ⟨t0, t1, t2, t3, t4, t5, t6, t7, t8, t9, ta, tb⟩ := T9
      obtain ⟨q0, q1, q2, q3, q4, q5, q6, q7, q8, q9, qa, qb⟩ := T8
      have hn1 : w.heap.size ≠ w3.heap.size := by omega
      go_wp2_with fail
      exact bodyPost_ret (v := .agg #[.int .i64 r3, .int .i64 c3, .slice a3 x3.length cap3, .int .i64 r2, .int .i64 c2, .slice a2 x2.length cap2]) (by simp [results, Try.results73, go_sem, q0, q1, q2, q3, q4, q5]) rfl
        ⟨_, _, _, _, x3, _, _, _, _, x2, rfl, by omega, k2, own_base (b := w.heap.size + 1) (by repeat (with_reducible first | exact o3 | refine own_far ?_ hb3 | refine ownsRow_setCell_below ?_ (by show w.heap.size < w.heap.size + 1; omega) _)) (by omega),
          own_base (b := w.heap.size + 1) (by repeat (with_reducible first | exact o2 | refine own_far ?_ hb2 | refine ownsRow_setCell_below ?_ (by show w.heap.size < w.heap.size + 1; omega) _)) (by omega),
          (by repeat (with_reducible first | exact ha6.le (by omega) | refine Rd.setNew ?_ (by omega) (by omega) _ _)), (by repeat (with_reducible first | exact hG | refine gb_setNew ?_ (by omega) _ _))⟩
    · go_wp2_with fail
      refine (l20Matrix ha5 (by omega) _ c 0 ⟨by omega, by omega⟩ hc1 (by decide)).mono ?_
      rintro e w6 ⟨v, ⟨r3, c3, a3, cap3, x3, rfl, ir3, ic3, hl3, hl31, o3⟩, rfl, ha6, hg6⟩
      have m6 := hg6.size
      replace T8 := T8.kept hg6 (by intro e; simp at e <;> omega)
      replace T9 := T9.kept hg6 (by intro e; simp at e <;> omega)
      replace o1 := own_row o1 (by omega) hg6
      replace o2 := own_row o2 (by omega) hg6
      replace hG := gb_trans hG hg6
      have hb3 : ∀ q, (Value.slice a3 x3.length cap3).ownBlock = some q → q ≠ w3.heap.size := fun q e => by have := (o3.lt q e).1; omega
      replace o3 := own_base o3 (b' := w.heap.size + 1) (by omega)
      obtain ⟨t0, t1, t2, t3, t4, t5, t6, t7, t8, t9, ta, tb⟩ := T9
      obtain ⟨q0, q1, q2, q3, q4, q5, q6, q7, q8, q9, qa, qb⟩ := T8
      have hn1 : w.heap.size ≠ w3.heap.size := by omega
      go_wp2_with fail
      exact bodyPost_ret (v := .agg #[.int .i64 r1, .int .i64 c1, .slice a1 x1.length cap1, .int .i64 r3, .int .i64 c3, .slice a3 x3.length cap3]) (by simp [results, Try.results73, go_sem, q0, q1, q2, q3, q4, q5]) rfl
        ⟨_, _, _, _, x1, _, _, _, _, x3, rfl, k1, by omega, own_base (b := w.heap.size + 1) (by repeat (with_reducible first | exact o1 | refine own_far ?_ hb1 | refine ownsRow_setCell_below ?_ (by show w.heap.size < w.heap.size + 1; omega) _)) (by omega),
          own_base (b := w.heap.size + 1) (by repeat (with_reducible first | exact o3 | refine own_far ?_ hb3 | refine ownsRow_setCell_below ?_ (by show w.heap.size < w.heap.size + 1; omega) _)) (by omega),
          (by repeat (with_reducible first | exact ha6.le (by omega) | refine Rd.setNew ?_ (by omega) (by omega) _ _)), (by repeat (with_reducible first | exact hG | refine gb_setNew ?_ (by omega) _ _))⟩
    · obtain ⟨t0, t1, t2, t3, t4, t5, t6, t7, t8, t9, ta, tb⟩ := T9
      obtain ⟨q0, q1, q2, q3, q4, q5, q6, q7, q8, q9, qa, qb⟩ := T8
      have hn1 : w.heap.size ≠ w3.heap.size := by omega
      go_wp2_with fail
      exact bodyPost_ret (v := .agg #[.int .i64 0, .int .i64 0, .slice none 0 0, .int .i64 0, .int .i64 0, .slice none 0 0]) (by simp [results, Try.results73, go_sem, q0, q1, q2, q3, q4, q5]) rfl
        ⟨0, 0, none, 0, [], 0, 0, none, 0, [], rfl, by simp, by simp, World.ownsRow_nil _ _ _ _, World.ownsRow_nil _ _ _ _,
          (by repeat (with_reducible first | exact ha5.le (by omega) | refine Rd.setNew ?_ (by omega) (by omega) _ _)), (by repeat (with_reducible first | exact hG | refine gb_setNew ?_ (by omega) _ _))⟩
/-- A drawn shared matrix in new memory. -/
def DrawsSM (w : World) (e : Ending) (w' : World) : Prop :=
  ∃ (r1 c1 : Int) (a1 : Option Addr) (cap1 : Nat) (x1 : List Int) (r2 c2 : Int) (a2 : Option Addr) (cap2 : Nat) (x2 : List Int),
    e = .returned (.agg #[.int .i64 r1, .int .i64 c1, .slice a1 x1.length cap1, .int .i64 r2, .int .i64 c2, .slice a2 x2.length cap2]) ∧ x1.length ≤ 36 ∧ x2.length ≤ 36 ∧
    Sees w' (.slice a1 x1.length cap1) x1 ∧ Sees w' (.slice a2 x2.length cap2) x2 ∧ w.grownBy w' none
set_option maxHeartbeats 1600000 in
theorem drawSharedMatrixValid (a : Option Addr) (n cap : Nat) (z : List Int) (w : World) (h : IsRow .u8 w a n cap z) : Calls Try.prog 32 #[.slice a n cap] w (DrawsSM w) := by
  have G0 : w.grownBy (w.alloc (.cells #[.int .i64 0, .int .i64 0, .slice none 0 0, .int .i64 0, .int .i64 0, .slice none 0 0] 40)) none := World.grownBy_alloc _ _ _
  have T0 := Six.new w (.int .i64 0) (.int .i64 0) (.slice none 0 0) (.int .i64 0) (.int .i64 0) (.slice none 0 0) 40
  have h0 := h.kept G0
  go_enter Try.func32, Try.ntmps32
  go_wp2_with fail
  refine (l20Open a n cap z _ h0).mono ?_
  rintro e w1 ⟨n', b, rfl, hr1, hg1⟩
  go_wp2_with fail
  refine (l20Side hr1 (by decide)).mono ?_
  rintro e w2 ⟨v, ⟨x, rfl, lx, ux⟩, rfl, hr2, hg2⟩
  go_wp2_with fail
  refine (l20Side hr2 (by decide)).mono ?_
  rintro e w3 ⟨v, ⟨y, rfl, ly, uy⟩, rfl, hr3, hg3⟩
  have hz := hr3.below.size
  simp at hz
  go_wp2_with fail
  refine (l20SharedMatrix hr3 (by decide) x y 2 ⟨lx, ux⟩ ⟨ly, uy⟩ (by decide)).mono ?_
  rintro e w4 ⟨r1, c1, a1, cap1, x1, r2, c2, a2, cap2, x2, rfl, k1, k2, o1, o2, hr4, hg4⟩
  replace T0 := T0.kept (below_gb hr4.below) (by simp)
  replace G0 := gbt G0 (below_gb hr4.below)
  obtain ⟨q0, q1, q2, q3, q4, q5, q6, q7, q8, q9, qa, qb⟩ := T0
  clear hr1 hr2 hr3 hr4 hg1 hg2 hg3 hg4
  go_wp2_with fail
  exact bodyPost_ret (v := .agg #[.int .i64 r1, .int .i64 c1, .slice a1 x1.length cap1, .int .i64 r2, .int .i64 c2, .slice a2 x2.length cap2]) (by simp [results, Try.results32, go_sem, q0, q1, q2, q3, q4, q5]) rfl
    ⟨_, _, _, _, x1, _, _, _, _, x2, rfl, k1, k2, Sees.of_own (base := w3.heap.size) (n := x1.length) (E := 3) (by repeat (with_reducible first | exact o1 | refine ownsRow_setCell_below ?_ (by show w.heap.size < w3.heap.size; omega) _)),
      Sees.of_own (base := w3.heap.size) (n := x2.length) (E := 3) (by repeat (with_reducible first | exact o2 | refine ownsRow_setCell_below ?_ (by show w.heap.size < w3.heap.size; omega) _)), by repeat (with_reducible first | exact G0 | refine gb_setNew ?_ (by omega) _ _)⟩
set_option maxHeartbeats 1600000 in
theorem drawJoinMatrix (a : Option Addr) (n cap : Nat) (z : List Int) (w : World) (h : IsRow .u8 w a n cap z) : Calls Try.prog 41 #[.slice a n cap] w (DrawsSM w) := by
  have G0 : w.grownBy (w.alloc (.cells #[.int .i64 0, .int .i64 0, .slice none 0 0, .int .i64 0, .int .i64 0, .slice none 0 0] 40)) none := World.grownBy_alloc _ _ _
  have T0 := Six.new w (.int .i64 0) (.int .i64 0) (.slice none 0 0) (.int .i64 0) (.int .i64 0) (.slice none 0 0) 40
  have h0 := h.kept G0
  go_enter Try.func41, Try.ntmps41
  go_wp2_with fail
  refine (l20Open a n cap z _ h0).mono ?_
  rintro e w1 ⟨n', b, rfl, hr1, hg1⟩
  go_wp2_with fail
  refine (l20Side hr1 (by decide)).mono ?_
  rintro e w2 ⟨v, ⟨x, rfl, lx, ux⟩, rfl, hr2, hg2⟩
  go_wp2_with fail
  refine (l20Side hr2 (by decide)).mono ?_
  rintro e w3 ⟨v, ⟨y, rfl, ly, uy⟩, rfl, hr3, hg3⟩
  have hz := hr3.below.size
  simp at hz
  go_wp2_with fail
  refine (l20SharedMatrix hr3 (by decide) x y 9 ⟨lx, ux⟩ ⟨ly, uy⟩ (by decide)).mono ?_
  rintro e w4 ⟨r1, c1, a1, cap1, x1, r2, c2, a2, cap2, x2, rfl, k1, k2, o1, o2, hr4, hg4⟩
  replace T0 := T0.kept (below_gb hr4.below) (by simp)
  replace G0 := gbt G0 (below_gb hr4.below)
  obtain ⟨q0, q1, q2, q3, q4, q5, q6, q7, q8, q9, qa, qb⟩ := T0
  clear hr1 hr2 hr3 hr4 hg1 hg2 hg3 hg4
  go_wp2_with fail
  exact bodyPost_ret (v := .agg #[.int .i64 r1, .int .i64 c1, .slice a1 x1.length cap1, .int .i64 r2, .int .i64 c2, .slice a2 x2.length cap2]) (by simp [results, Try.results41, go_sem, q0, q1, q2, q3, q4, q5]) rfl
    ⟨_, _, _, _, x1, _, _, _, _, x2, rfl, k1, k2, Sees.of_own (base := w3.heap.size) (n := x1.length) (E := 3) (by repeat (with_reducible first | exact o1 | refine ownsRow_setCell_below ?_ (by show w.heap.size < w3.heap.size; omega) _)),
      Sees.of_own (base := w3.heap.size) (n := x2.length) (E := 3) (by repeat (with_reducible first | exact o2 | refine ownsRow_setCell_below ?_ (by show w.heap.size < w3.heap.size; omega) _)), by repeat (with_reducible first | exact G0 | refine gb_setNew ?_ (by omega) _ _)⟩
end Go.Proofs.Ytfnajbifdilfmaa
