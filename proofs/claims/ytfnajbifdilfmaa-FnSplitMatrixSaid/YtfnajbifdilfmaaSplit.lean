/- The contracts of the reference's RandomMatrix, for valid arguments, and of its SplitMatrix. Conditions: at most 2 to the 20 values. -/
import Derived.Test.YtfnajbifdilfmaaSM
import Derived.Test.YtfnajbifdilfmaaPairS
import Derived.Test.YtfnajbifdilfmaaPairP
import Derived.Test.YtfnajbifdilfmaaTwo
import Derived.Deep.RegionHeld3
namespace Go.Proofs.Ytfnajbifdilfmaa
open Go Go.RowKit

theorem l1Inq (q : Bool) (n lo hi : Int) (w : World) (h : decide (lo ≤ n ∧ n ≤ hi) = q) : Calls Try.prog 79 #[.int .i64 n, .int .i64 lo, .int .i64 hi] w fun e w' => e = .returned (.bool q) ∧ w = w' := by
  subst h; exact l1In n lo hi w
set_option maxHeartbeats 800000 in
theorem randomMatrix_s (R C : Nat) (s : Int) (hR : 1 ≤ R ∧ R ≤ 5) (hC : 1 ≤ C ∧ C ≤ 5) (hs : sv s = true) (w : World) :
    Calls Try.prog 80 #[.int .i64 R, .int .i64 C, .int .i64 s] w fun e w' => ∃ (a : Option Addr) (cap : Nat), e = .returned (.tuple #[.agg #[.int .i64 R, .int .i64 C, .slice a (R * C) cap], .int .i64 (rseed s (R * C))]) ∧
      w'.ownsRow w.heap.size 3 1 (.slice a (R * C) cap) (R * C) (ints (rlist s (R * C))) ∧ w.grownBy w' none := by
  have hb := sv_iff.1 hs
  have hm : R * C ≤ 5 * 5 := Nat.mul_le_mul hR.2 hC.2
  have T1 := Three.new w (.int .i64 0) (.int .i64 0) (.slice none 0 0) 26
  have G0 : w.grownBy (w.alloc (.cells #[.int .i64 0, .int .i64 0, .slice none 0 0] 26)) none := World.grownBy_alloc _ _ _
  have C1 := l4List s (R * C) (by omega) (by omega) (w.alloc (.cells #[.int .i64 0, .int .i64 0, .slice none 0 0] 26))
  have e0 : (0 : Int) ≤ (R : Int) * (C : Int) := Int.mul_nonneg (by omega) (by omega)
  have e1 : (R : Int) * (C : Int) ≤ 25 := by exact_mod_cast hm
  have ew : IntKind.i64.wrap ((R : Int) * (C : Int)) = (R : Int) * (C : Int) := by rw [IntKind.wrap_i64]; omega
  rw [show ((R * C : Nat) : Int) = (R : Int) * (C : Int) from by simp] at C1
  replace C1 := Lib.hid C1
  obtain ⟨n, hn⟩ : ∃ n, n = R * C := ⟨_, rfl⟩
  rw [← hn] at C1 ⊢
  obtain ⟨z, hz⟩ : ∃ z, z = rseed s n := ⟨_, rfl⟩
  rw [← hz] at C1 ⊢
  clear hn hz hm
  go_enter Try.func80, Try.ntmps80
  go_wp2_with fail
  refine (l1Inq true _ _ _ _ (by simpa using hb)).mono ?_
  rintro e w' ⟨rfl, rfl⟩
  go_wp2_with fail
  refine (l1Inq true _ _ _ _ (by simp; omega)).mono ?_
  rintro e w' ⟨rfl, rfl⟩
  go_wp2_with fail
  refine (l1Inq true _ _ _ _ (by simp; omega)).mono ?_
  rintro e w' ⟨rfl, rfl⟩
  go_wp2_with fail
  refine C1.out.mono ?_
  clear C1
  rintro e w1 ⟨v, rfl, ho, hbl⟩
  have hg := below_gb hbl
  obtain ⟨a, cap, rfl⟩ := own_slice ho
  replace T1 := T1.kept hg (by simp)
  replace G0 := gbt G0 hg
  simp at ho
  clear hbl hg
  obtain ⟨q0, q1, q2, q3, q4, q5⟩ := T1
  go_wp2_with fail
  exact bodyPost_ret (v := .tuple #[.agg #[.int .i64 R, .int .i64 C, .slice a n cap], .int .i64 z]) (by simp [results, Try.results80, go_sem, q0, q1, q2]) rfl
    ⟨a, cap, rfl, own_base (b := w.heap.size + 1) (by repeat (with_reducible first | exact ho | (refine ownsRow_setCell_below ?_ (by show w.heap.size < w.heap.size + 1; omega) _))) (by omega), by repeat (with_reducible first | exact G0 | (refine gb_setNew ?_ (by omega) _ _))⟩
set_option maxHeartbeats 1600000 in
theorem splitMatrix_s_no (r c s : Int) (v : Value) (xs : List Int) (w : World) (h : Sees w v xs) (hn : xs.length ≤ 1048576) (hq : (mv r c xs && sv s) = false) :
    Calls Try.prog 44 #[.agg #[.int .i64 r, .int .i64 c, v], .int .i64 s] w fun e w' => e = .returned (.tuple #[.agg #[.int .i64 0, .int .i64 0, .slice none 0 0, .int .i64 0, .int .i64 0, .slice none 0 0], .int .i64 0]) ∧ w.grownBy w' none := by
  obtain ⟨a, cap, rfl⟩ := h.form
  obtain ⟨W, hW⟩ : ∃ W, W = (w.alloc (.cells #[.int .i64 r, .int .i64 c, .slice a xs.length cap] 26)).alloc (.cells #[.int .i64 0, .int .i64 0, .slice none 0 0, .int .i64 0, .int .i64 0, .slice none 0 0] 40) := ⟨_, rfl⟩
  have T1 : Three W w.heap.size (.int .i64 r) (.int .i64 c) (.slice a xs.length cap) := by rw [hW]; exact (Three.new w _ _ _ _).alloc _
  have T2 : Six W (w.heap.size + 1) (.int .i64 0) (.int .i64 0) (.slice none 0 0) (.int .i64 0) (.int .i64 0) (.slice none 0 0) := by rw [hW]; simpa using Six.new (w.alloc (.cells #[.int .i64 r, .int .i64 c, .slice a xs.length cap] 26)) (.int .i64 0) (.int .i64 0) (.slice none 0 0) (.int .i64 0) (.int .i64 0) (.slice none 0 0) 40
  have G0 : w.grownBy W none := by rw [hW]; exact gbt (World.grownBy_alloc _ _ _) (World.grownBy_alloc _ _ _)
  have hz : w.heap.size + 2 ≤ W.heap.size := by rw [hW]; simp
  have C1 := Lib.hid (l1OwnMatrix r c _ xs W (h.kept G0) hn)
  rw [hW] at C1 T1 T2 G0 hz
  clear hW h
  obtain ⟨p0, p1, p2, p3, p4, p5⟩ := id T1
  go_enter Try.func44, Try.ntmps44
  go_wp2_with fail
  refine C1.out.mono ?_
  clear C1
  rintro e w1 ⟨a1, cap1, rfl, o1, hg⟩
  replace T1 := T1.kept hg (by simp)
  replace T2 := T2.kept hg (by simp)
  replace G0 := gbt G0 hg
  replace o1 := own_base o1 (b' := w.heap.size + 2) hz
  replace hz := Nat.le_trans hz hg.size
  clear hg p0 p1 p2 p3 p4 p5
  obtain ⟨p0, p1, p2, p3, p4, p5⟩ := id T1
  obtain ⟨T1', gs⟩ := T1.set (.int .i64 r) (.int .i64 c) (.slice a1 xs.length cap1)
  replace T2 := T2.kept gs (by simp)
  replace G0 := gb_none G0 gs (fun k e => by cases e; omega)
  have s1 := Sees.of_own (own_set3 (x := .int .i64 r) (y := .int .i64 c) (z := .slice a1 xs.length cap1) o1 (show w.heap.size < w.heap.size + 2 by omega))
  replace hz := Nat.le_trans hz gs.size
  clear gs T1 o1
  go_wp2_with fail
  clear p0 p1 p2 p3 p4 p5
  generalize hWy : ((w1.setCell ⟨w.heap.size, 0, none⟩ (.int .i64 r)).setCell ⟨w.heap.size, 1, none⟩ (.int .i64 c)).setCell ⟨w.heap.size, 2, none⟩ (.slice a1 xs.length cap1) = Wy at *
  clear hWy
  by_cases hm : mv r c xs = true
  · have hs : sv s = false := by simpa [hm] using hq
    refine (mvq_s true _ _ _ xs _ s1 hm).mono ?_
    rintro e w2 ⟨rfl, hg⟩
    replace T2 := T2.kept hg (by simp)
    replace G0 := gbt G0 hg
    replace hz := Nat.le_trans hz hg.size
    clear hg T1' s1
    go_wp2_with fail
    refine (l1Inq false _ _ _ _ (by have := sv_no.1 hs; simp; omega)).mono ?_
    rintro e w' ⟨rfl, rfl⟩
    obtain ⟨q0, q1, q2, q3, q4, q5, q6, q7, q8, q9, qa, qb⟩ := T2
    go_wp2_with fail
    exact bodyPost_ret (v := .tuple #[.agg #[.int .i64 0, .int .i64 0, .slice none 0 0, .int .i64 0, .int .i64 0, .slice none 0 0], .int .i64 0]) (by simp [results, Try.results44, go_sem, q0, q1, q2, q3, q4, q5]) rfl ⟨rfl, by repeat (with_reducible first | exact G0 | (refine gb_setNew ?_ (by omega) _ _))⟩
  · replace hm : mv r c xs = false := by simpa using hm
    refine (mvq_s false _ _ _ xs _ s1 hm).mono ?_
    rintro e w2 ⟨rfl, hg⟩
    replace T2 := T2.kept hg (by simp)
    replace G0 := gbt G0 hg
    replace hz := Nat.le_trans hz hg.size
    clear hg T1' s1
    obtain ⟨q0, q1, q2, q3, q4, q5, q6, q7, q8, q9, qa, qb⟩ := T2
    go_wp2_with fail
    exact bodyPost_ret (v := .tuple #[.agg #[.int .i64 0, .int .i64 0, .slice none 0 0, .int .i64 0, .int .i64 0, .slice none 0 0], .int .i64 0]) (by simp [results, Try.results44, go_sem, q0, q1, q2, q3, q4, q5]) rfl ⟨rfl, by repeat (with_reducible first | exact G0 | (refine gb_setNew ?_ (by omega) _ _))⟩
set_option maxHeartbeats 1600000 in
theorem splitMatrix_s_yes (r c s : Int) (v : Value) (xs : List Int) (w : World) (h : Sees w v xs) (hn : xs.length ≤ 1048576) (hm : mv r c xs = true) (hs : sv s = true) :
    Calls Try.prog 44 #[.agg #[.int .i64 r, .int .i64 c, v], .int .i64 s] w fun e w' => ∃ (a : Option Addr) (cap : Nat) (a' : Option Addr) (cap' : Nat),
      e = .returned (.tuple #[.agg #[.int .i64 r, .int .i64 c, .slice a xs.length cap, .int .i64 r, .int .i64 c, .slice a' xs.length cap'], .int .i64 (rseed s xs.length)]) ∧
      w'.ownsRow w.heap.size 3 1 (.slice a xs.length cap) xs.length (ints (rlist s xs.length)) ∧ w'.ownsRow w.heap.size 3 1 (.slice a' xs.length cap') xs.length (ints (subL xs (rlist s xs.length))) ∧ w.grownBy w' none := by
  obtain ⟨a, cap, rfl⟩ := h.form
  obtain ⟨W, hW⟩ : ∃ W, W = (w.alloc (.cells #[.int .i64 r, .int .i64 c, .slice a xs.length cap] 26)).alloc (.cells #[.int .i64 0, .int .i64 0, .slice none 0 0, .int .i64 0, .int .i64 0, .slice none 0 0] 40) := ⟨_, rfl⟩
  have T1 : Three W w.heap.size (.int .i64 r) (.int .i64 c) (.slice a xs.length cap) := by rw [hW]; exact (Three.new w _ _ _ _).alloc _
  have T2 : Six W (w.heap.size + 1) (.int .i64 0) (.int .i64 0) (.slice none 0 0) (.int .i64 0) (.int .i64 0) (.slice none 0 0) := by rw [hW]; simpa using Six.new (w.alloc (.cells #[.int .i64 r, .int .i64 c, .slice a xs.length cap] 26)) (.int .i64 0) (.int .i64 0) (.slice none 0 0) (.int .i64 0) (.int .i64 0) (.slice none 0 0) 40
  have G0 : w.grownBy W none := by rw [hW]; exact gbt (World.grownBy_alloc _ _ _) (World.grownBy_alloc _ _ _)
  have hz : w.heap.size + 2 ≤ W.heap.size := by rw [hW]; simp
  have C1 := Lib.hid (l1OwnMatrix r c _ xs W (h.kept G0) hn)
  rw [hW] at C1 T1 T2 G0 hz
  clear hW h
  obtain ⟨R, C, hr, hc, r1, r2, c1, c2, hl, h25⟩ := mv_dims hm
  have CR : ∀ u, Calls Try.prog 80 #[.int .i64 r, .int .i64 c, .int .i64 s] u fun e w' => ∃ (a : Option Addr) (cap : Nat), e = .returned (.tuple #[.agg #[.int .i64 r, .int .i64 c, .slice a xs.length cap], .int .i64 (rseed s xs.length)]) ∧
      w'.ownsRow u.heap.size 3 1 (.slice a xs.length cap) xs.length (ints (rlist s xs.length)) ∧ u.grownBy w' none := by
    intro u; rw [hr, hc, hl]; exact randomMatrix_s R C s ⟨r1, r2⟩ ⟨c1, c2⟩ hs u
  obtain ⟨z, hzz⟩ : ∃ z, z = rseed s xs.length := ⟨_, rfl⟩
  obtain ⟨rl, hrl⟩ : ∃ rl, rl = rlist s xs.length := ⟨_, rfl⟩
  have hlen : rl.length = xs.length := by rw [hrl, rlist_len]
  have hmr : mv r c rl = true := by
    obtain ⟨a1, a2, a3, _⟩ := mv_iff.1 hm
    exact mv_iff.2 ⟨a1, a2, by rw [hlen]; exact a3, by rw [hrl]; exact rlist_rv _ _⟩
  have hsl : (subL xs rl).length = xs.length := by unfold subL; rw [List.length_zipWith, hlen]; omega
  obtain ⟨sl, hsb⟩ : ∃ sl, sl = subL xs rl := ⟨_, rfl⟩
  have CS : ∀ u v v', Sees u v xs → Sees u v' rl → Calls Try.prog 23 #[.agg #[.int .i64 r, .int .i64 c, v], .agg #[.int .i64 r, .int .i64 c, v']] u fun e w' => ∃ (a : Option Addr) (cap : Nat), e = .returned (.agg #[.int .i64 r, .int .i64 c, .slice a xs.length cap]) ∧ w'.ownsRow u.heap.size 3 1 (.slice a xs.length cap) xs.length (ints sl) ∧ u.grownBy w' none := by
    intro u v v' k k'
    have h1 := subMatrices_s r c r c v v' xs rl u k k' hn (by rw [hlen]; exact hn)
    rw [show lk r c xs r c rl = true from lk_iff.2 ⟨hm, hmr, rfl, rfl⟩] at h1
    have h2 : Calls Try.prog 23 #[.agg #[.int .i64 r, .int .i64 c, v], .agg #[.int .i64 r, .int .i64 c, v']] u (RetM u r c (subL xs rl)) := h1
    rw [hsb]
    unfold RetM at h2
    rw [hsl] at h2
    exact h2
  rw [← hzz, ← hrl] at CR ⊢
  rw [← hsb]
  have hlr : ∀ (u : World) (v : Value) (b : Nat), u.ownsRow b 3 1 v xs.length (ints rl) → Sees u v rl := fun u v b k => Sees.of_own k
  replace CR := Lib.hid CR
  replace CS := Lib.hid CS
  have HM := Lib.hid hm
  have HS := Lib.hid hs
  clear hr hc hl h25 hzz hrl hlen hmr hsl hsb hm hs r1 r2 c1 c2
  obtain ⟨p0, p1, p2, p3, p4, p5⟩ := id T1
  go_enter Try.func44, Try.ntmps44
  go_wp2_with fail
  refine C1.out.mono ?_
  clear C1
  rintro e w1 ⟨a1, cap1, rfl, o1, hg⟩
  replace T1 := T1.kept hg (by simp)
  replace T2 := T2.kept hg (by simp)
  replace G0 := gbt G0 hg
  replace o1 := own_base o1 (b' := w.heap.size + 2) hz
  replace hz := Nat.le_trans hz hg.size
  clear hg p0 p1 p2 p3 p4 p5
  obtain ⟨p0, p1, p2, p3, p4, p5⟩ := id T1
  obtain ⟨T1', gs⟩ := T1.set (.int .i64 r) (.int .i64 c) (.slice a1 xs.length cap1)
  replace T2 := T2.kept gs (by simp)
  replace G0 := gb_none G0 gs (fun k e => by cases e; omega)
  replace o1 := own_set3 (x := .int .i64 r) (y := .int .i64 c) (z := .slice a1 xs.length cap1) o1 (show w.heap.size < w.heap.size + 2 by omega)
  replace hz := Nat.le_trans hz gs.size
  clear gs T1
  go_wp2_with fail
  clear p0 p1 p2 p3 p4 p5
  generalize hWy : ((w1.setCell ⟨w.heap.size, 0, none⟩ (.int .i64 r)).setCell ⟨w.heap.size, 1, none⟩ (.int .i64 c)).setCell ⟨w.heap.size, 2, none⟩ (.slice a1 xs.length cap1) = Wy at *
  clear hWy
  refine (mvq_s true _ _ _ xs _ (Sees.of_own o1) HM.out).mono ?_
  rintro e w2 ⟨rfl, hg⟩
  replace T1' := T1'.kept hg (by simp)
  replace T2 := T2.kept hg (by simp)
  replace o1 := own_kept o1 hg
  replace G0 := gbt G0 hg
  replace hz := Nat.le_trans hz hg.size
  clear hg
  go_wp2_with fail
  refine (l1Inq true _ _ _ _ (by simpa using sv_iff.1 HS.out)).mono ?_
  rintro e w' ⟨rfl, rfl⟩
  have p0 := T1'.c0
  have p1 := T1'.c1
  go_wp2_with fail
  refine (CR.out _).mono ?_
  rintro e w3 ⟨a3, cap3, rfl, o3, hg⟩
  clear p0 p1
  have hgx := gbt hg (World.grownBy_alloc w3 (.cells #[.int .i64 r, .int .i64 c, .slice a3 xs.length cap3] 26) none)
  have X := Three.new w3 (.int .i64 r) (.int .i64 c) (.slice a3 xs.length cap3) 26
  replace o3 := (own_base o3 (b' := w.heap.size + 2) hz).alloc (.cells #[.int .i64 r, .int .i64 c, .slice a3 xs.length cap3] 26)
  have hz3 : w.heap.size + 2 ≤ w3.heap.size := Nat.le_trans hz hg.size
  replace T1' := T1'.kept hgx (by simp)
  replace T2 := T2.kept hgx (by simp)
  replace o1 := own_kept o1 hgx
  replace G0 := gbt G0 hgx
  clear hg hgx
  obtain ⟨u, hu⟩ : ∃ u, u = w3.alloc (.cells #[.int .i64 r, .int .i64 c, .slice a3 xs.length cap3] 26) := ⟨_, rfl⟩
  have x0 := X.c0
  have x1 := X.c1
  have x2 := X.c2
  have p0 := T1'.c0
  have p1 := T1'.c1
  have p2 := T1'.c2
  go_wp2_with fail
  clear x0 x1 x2 p0 p1 p2
  have hzu : w3.heap.size + 1 = u.heap.size := by rw [hu]; simp
  rw [← hu] at X o3 T1' T2 o1 G0 ⊢
  clear hu
  have HK : Hid (∀ w', u.grownBy w' none → w'.cell? ⟨w3.heap.size, 0, none⟩ = some (.int .i64 r) ∧ w'.cell? ⟨w3.heap.size, 1, none⟩ = some (.int .i64 c) ∧ w'.cell? ⟨w3.heap.size, 2, none⟩ = some (.slice a3 xs.length cap3) ∧ w'.cell? ⟨w.heap.size, 0, none⟩ = some (.int .i64 r) ∧ w'.cell? ⟨w.heap.size, 1, none⟩ = some (.int .i64 c) ∧ w'.cell? ⟨w.heap.size, 2, none⟩ = some (.slice a1 xs.length cap1)) := fun w' h =>
    ⟨(X.kept h (by simp)).c0, (X.kept h (by simp)).c1, (X.kept h (by simp)).c2, (T1'.kept h (by simp)).c0, (T1'.kept h (by simp)).c1, (T1'.kept h (by simp)).c2⟩
  have s1 := (Sees.of_own o1).kept (gb_drew u none)
  have s3 := (hlr _ _ _ o3).kept (gb_drew u none)
  have K0 := gb_drew u none
  have hn1 : w.heap.size + 1 ≠ w3.heap.size := by omega
  have hn2 : w.heap.size + 1 ≠ w.heap.size := by omega
  clear o1 hlr
  go_region_held3 (fun w' => w'.cell? ⟨w3.heap.size, 0, none⟩ = some (.int .i64 r) ∧ w'.cell? ⟨w3.heap.size, 1, none⟩ = some (.int .i64 c) ∧ w'.cell? ⟨w3.heap.size, 2, none⟩ = some (.slice a3 xs.length cap3) ∧ w'.cell? ⟨w.heap.size, 0, none⟩ = some (.int .i64 r) ∧ w'.cell? ⟨w.heap.size, 1, none⟩ = some (.int .i64 c) ∧ w'.cell? ⟨w.heap.size, 2, none⟩ = some (.slice a1 xs.length cap1))
    (first | exact HK.out _ (by with_reducible assumption) | (refine ⟨?_, ?_, ?_, ?_, ?_, ?_⟩ <;> (repeat (with_reducible first | exact u0 | exact u1 | exact u2 | exact u3 | exact u4 | exact u5 | refine cell_far ?_ (by first | exact hn1 | exact hn2)))))
    (first | (go_at_call 23; refine (CS.out _ _ _ s1 s3).mono ?_; rintro e w5 ⟨a5, cap5, rfl, o5, hg5⟩; have K1 := gbt K0 hg5; obtain ⟨u0, u1, u2, u3, u4, u5⟩ := HK.out _ K1; obtain ⟨q0, q1, q2, q3, q4, q5, q6, q7, q8, q9, qa, qb⟩ := T2.kept K1 (by simp); have o3' := own_kept o3 K1; have G1 := gbt G0 K1; have o5' := own_base o5 (b' := w.heap.size + 2) (by show w.heap.size + 2 ≤ u.heap.size; omega); clear s1 s3 K0 o3 o5 T2 G0 hg5))
  go_wp2_with fail
  clear u0 u1 u2 u3 u4 u5
  exact bodyPost_ret (v := .tuple #[.agg #[.int .i64 r, .int .i64 c, .slice a3 xs.length cap3, .int .i64 r, .int .i64 c, .slice a5 xs.length cap5], .int .i64 z]) (by simp [results, Try.results44, go_sem, q0, q1, q2, q3, q4, q5]) rfl
    ⟨a3, cap3, a5, cap5, rfl, own_base (b := w.heap.size + 2) (by repeat (with_reducible first | exact o3' | (refine ownsRow_setCell_below ?_ (by show w.heap.size + 1 < w.heap.size + 2; omega) _))) (by omega), own_base (b := w.heap.size + 2) (by repeat (with_reducible first | exact o5' | (refine ownsRow_setCell_below ?_ (by show w.heap.size + 1 < w.heap.size + 2; omega) _))) (by omega), by repeat (with_reducible first | exact G1 | (refine gb_setNew ?_ (by omega) _ _))⟩
end Go.Proofs.Ytfnajbifdilfmaa
