/- The contracts of DrawSplitMatrix and of sameShares. Conditions: the code is a readable slice of bytes. -/
import Derived.Test.YtfnajbifdilfmaaISplit
import Derived.Test.YtfnajbifdilfmaaJoin
import Derived.Deep.OwnRows
namespace Go.Proofs.Ytfnajbifdilfmaa
open Go Go.RowKit

theorem sameShares (r c r' c' : Int) (v v' u u' : Value) (xs ys : List Int) (w : World) (h : Sees w v xs) (h' : Sees w v' ys) (k : Sees w u xs) (k' : Sees w u' ys) :
    Calls Try.prog 45 #[.agg #[.int .i64 r, .int .i64 c, v, .int .i64 r', .int .i64 c', v'], .agg #[.int .i64 r, .int .i64 c, u, .int .i64 r', .int .i64 c', u']] w fun e w' => e = .returned (.bool true) ∧ w.grownBy w' none := by
  have T1 : Six ((w.alloc (.cells #[.int .i64 r, .int .i64 c, v, .int .i64 r', .int .i64 c', v'] 40)).alloc (.cells #[.int .i64 r, .int .i64 c, u, .int .i64 r', .int .i64 c', u'] 40)) w.heap.size (.int .i64 r) (.int .i64 c) v (.int .i64 r') (.int .i64 c') v' := (Six.new w _ _ _ _ _ _ _).alloc _
  have T2 : Six ((w.alloc (.cells #[.int .i64 r, .int .i64 c, v, .int .i64 r', .int .i64 c', v'] 40)).alloc (.cells #[.int .i64 r, .int .i64 c, u, .int .i64 r', .int .i64 c', u'] 40)) (w.heap.size + 1) (.int .i64 r) (.int .i64 c) u (.int .i64 r') (.int .i64 c') u' := by
    simpa using Six.new (w.alloc (.cells #[.int .i64 r, .int .i64 c, v, .int .i64 r', .int .i64 c', v'] 40)) (.int .i64 r) (.int .i64 c) u (.int .i64 r') (.int .i64 c') u' 40
  have G0 : w.grownBy ((w.alloc (.cells #[.int .i64 r, .int .i64 c, v, .int .i64 r', .int .i64 c', v'] 40)).alloc (.cells #[.int .i64 r, .int .i64 c, u, .int .i64 r', .int .i64 c', u'] 40)) none := gbt (World.grownBy_alloc _ _ _) (World.grownBy_alloc _ _ _)
  replace h := h.kept G0
  replace h' := h'.kept G0
  replace k := k.kept G0
  replace k' := k'.kept G0
  go_enter Try.func45, Try.ntmps45
  go_wp2_with fail
  refine (sameMatrix _ _ _ _ xs _ h k).mono ?_
  rintro e w1 ⟨rfl, hg⟩
  replace T1 := T1.kept hg (by simp)
  replace T2 := T2.kept hg (by simp)
  replace h' := h'.kept hg
  replace k' := k'.kept hg
  replace G0 := gbt G0 hg
  clear hg h k
  obtain ⟨p0, p1, p2, p3, p4, p5, _, _, _, _, _, _⟩ := T1
  obtain ⟨q0, q1, q2, q3, q4, q5, _, _, _, _, _, _⟩ := T2
  go_wp2_with fail
  refine (sameMatrix _ _ _ _ ys _ h' k').mono ?_
  rintro e w2 ⟨rfl, hg⟩
  replace G0 := gbt G0 hg
  clear hg
  go_wp2_with fail
  go_ret
  exact ⟨rfl, G0⟩
/-- A drawn matrix in new memory, and a number. -/
def DrawsMS (w : World) (e : Ending) (w' : World) : Prop :=
  ∃ (r c : Int) (g cap : Nat) (xs : List Int) (s : Int),
    e = .returned (.tuple #[.agg #[.int .i64 r, .int .i64 c, .slice (some ⟨g, 0, none⟩) xs.length cap], .int .i64 s]) ∧ xs.length ≤ 36 ∧
    Sees w' (.slice (some ⟨g, 0, none⟩) xs.length cap) xs ∧ w.grownBy w' none
set_option maxHeartbeats 1600000 in
theorem drawSplitMatrix (a : Option Addr) (n cap : Nat) (z : List Int) (w : World) (h : IsRow .u8 w a n cap z) : Calls Try.prog 42 #[.slice a n cap] w (DrawsMS w) := by
  have G0 : w.grownBy (w.alloc (.cells #[.int .i64 0, .int .i64 0, .slice none 0 0] 26)) none := World.grownBy_alloc _ _ _
  have T2 := Three.new w (.int .i64 0) (.int .i64 0) (.slice none 0 0) 26
  have h0 := h.kept G0
  go_enter Try.func42, Try.ntmps42
  go_wp2_with fail
  refine (l20Open a n cap z _ h0).mono ?_
  rintro e w1 ⟨n', b, rfl, hr1, hg1⟩
  go_wp2_with fail
  refine (l20Side hr1 (by decide)).mono ?_
  rintro e w2 ⟨v, ⟨x, rfl, lx, ux⟩, rfl, hr2, hg2⟩
  go_wp2_with fail
  refine (l20Side hr2 (by decide)).mono ?_
  rintro e w3 ⟨v, ⟨y, rfl, ly, uy⟩, rfl, hr3, hg3⟩
  go_wp2_with fail
  refine (l20Matrix hr3 (by decide) x y 9 ⟨lx, ux⟩ ⟨ly, uy⟩ (by decide)).mono ?_
  rintro e w4 ⟨v, ⟨r, c, a4, cap4, xs, rfl, ir, ic, hl, hl1, ho⟩, rfl, hr4, hg4⟩
  obtain ⟨g1, cp, he, gl, gu⟩ := own_form ho (by omega)
  obtain ⟨rfl, rfl⟩ : a4 = some ⟨g1, 0, none⟩ ∧ cap4 = cp := by simpa using he
  have hb3 := hr3.b_lt
  have hbw := hr3.b_ge
  have hz3 := hr3.below.size
  simp at hz3 hbw
  have m4 := hg4.size
  have hx := (Sees.of_own ho).alloc (.cells #[.int .i64 r, .int .i64 c, .slice (some ⟨g1, 0, none⟩) xs.length cap4] 26)
  have TB := Three.new w4 (.int .i64 r) (.int .i64 c) (.slice (some ⟨g1, 0, none⟩) xs.length cap4) 26
  replace hr4 := hr4.alloc (.cells #[.int .i64 r, .int .i64 c, .slice (some ⟨g1, 0, none⟩) xs.length cap4] 26)
  clear hr1 hr2 hr3 hg1 hg2 hg3 hg4 ho he ir ic h h0
  obtain ⟨w5, hw5⟩ : ∃ w5, w5 = w4.alloc (.cells #[.int .i64 r, .int .i64 c, .slice (some ⟨g1, 0, none⟩) xs.length cap4] 26) := ⟨_, rfl⟩
  have m5 : w4.heap.size + 1 = w5.heap.size := by rw [hw5]; simp
  have hn1 : w.heap.size ≠ w4.heap.size := by omega
  have p0 := TB.c0
  have p1 := TB.c1
  have p2 := TB.c2
  go_wp2_with fail
  clear p0 p1 p2
  rw [← hw5] at hx TB hr4 ⊢
  clear hw5
  have HM : Hid (∀ w', w5.grownBy w' (some b) → w'.cell? ⟨w4.heap.size, 0, none⟩ = some (.int .i64 r) ∧ w'.cell? ⟨w4.heap.size, 1, none⟩ = some (.int .i64 c) ∧ w'.cell? ⟨w4.heap.size, 2, none⟩ = some (.slice (some ⟨g1, 0, none⟩) xs.length cap4)) := fun w' h =>
    ⟨(TB.kept h (by intro e; simp at e <;> omega)).c0, (TB.kept h (by intro e; simp at e <;> omega)).c1, (TB.kept h (by intro e; simp at e <;> omega)).c2⟩
  have hr5d := hr4.kept (gb_drew _ none) (fun _ e => by cases e)
  have hxd := hx.kept (gb_drew _ none)
  clear hx TB hr4
  go_region_held3 (fun w' => w'.cell? ⟨w4.heap.size, 0, none⟩ = some (.int .i64 r) ∧ w'.cell? ⟨w4.heap.size, 1, none⟩ = some (.int .i64 c) ∧ w'.cell? ⟨w4.heap.size, 2, none⟩ = some (.slice (some ⟨g1, 0, none⟩) xs.length cap4))
    (first | exact HM.out _ (by with_reducible first | assumption | exact gb_drew _ _) | (refine ⟨?_, ?_, ?_⟩ <;> (repeat (with_reducible first | exact u0 | exact u1 | exact u2 | refine cell_far ?_ hn1))))
    (first | (go_at_call 76; refine (l20Seed hr5d (by decide) 9 (by decide)).mono ?_; rintro e w7 ⟨v, ⟨q, rfl, lq, uq⟩, rfl, hr7, hg7⟩; have m7 := hg7.size; have hx7 := hxd.kept_row hg7 (Or.inr (by intro e; simp [Value.ownBlock] at e <;> omega)); have hgd := gb_trans (gb_drew w5 (some b)) hg7; obtain ⟨u0, u1, u2⟩ := HM.out _ hgd; obtain ⟨s0, s1, s2, s3, s4, s5⟩ := T2.kept (below_gb hr7.below) (by simp); have hG := gbt G0 (below_gb hr7.below); clear hxd hr5d hr7 T2 G0))
  go_wp2_with fail
  clear u0 u1 u2
  exact bodyPost_ret (v := .tuple #[.agg #[.int .i64 r, .int .i64 c, .slice (some ⟨g1, 0, none⟩) xs.length cap4], .int .i64 q]) (by simp [results, Try.results42, go_sem, s0, s1, s2]) rfl
    ⟨r, c, g1, cap4, xs, q, rfl, by omega, by repeat (with_reducible first | exact hx7 | refine seesSet ?_ (by omega) _ _), by repeat (with_reducible first | exact hG | refine gb_setNew ?_ (by omega) _ _)⟩
def zL (n : Nat) : List Int := (List.range n).map fun _ => (0 : Int)
theorem zL_len (n : Nat) : (zL n).length = n := by simp [zL]
theorem zL_mv {r c : Int} {xs : List Int} (h : mv r c xs = true) : mv r c (zL xs.length) = true := by
  obtain ⟨a1, a2, a3, _⟩ := mv_iff.1 h
  refine mv_iff.2 ⟨a1, a2, by rw [zL_len]; exact a3, ?_⟩
  intro x hx
  simp [zL] at hx
  obtain ⟨_, _, rfl⟩ := hx
  decide
theorem own_zero (w : World) (n b : Nat) (hn : n ≤ maxLen) (hb : b ≤ w.heap.size) : (w.alloc (.cells (madeCells #[.int .i64 0] n) 3)).ownsRow b 3 1 (.slice (some ⟨w.heap.size, 0, none⟩) n n) n (ints (zL n)) := by
  have h := World.ownsRow_lit (base := b) (e := 3) (size := 1) w (madeCells #[.int .i64 0] n) n hb hn (by rw [Nat.mul_one, ← Array.length_toList, made_zero]; simp)
  rw [made_zero] at h
  exact h
/-- The shares of a valid matrix are joined to it. -/
theorem join_split {r c : Int} {xs : List Int} (s : Int) (hm : mv r c xs = true) : lk r c (rlist s xs.length) r c (subL xs (rlist s xs.length)) = true ∧ addL (rlist s xs.length) (subL xs (rlist s xs.length)) = xs := by
  obtain ⟨a1, a2, a3, a4⟩ := mv_iff.1 hm
  have hmr : mv r c (rlist s xs.length) = true := mv_iff.2 ⟨a1, a2, by rw [rlist_len]; exact a3, rlist_rv _ _⟩
  refine ⟨lk_iff.2 ⟨hmr, mv_zip subr_rv hm hmr, rfl, rfl⟩, ?_⟩
  rw [addL_comm, addL_subL (by rw [rlist_len]) a4 (rlist_rv _ _)]
end Go.Proofs.Ytfnajbifdilfmaa
