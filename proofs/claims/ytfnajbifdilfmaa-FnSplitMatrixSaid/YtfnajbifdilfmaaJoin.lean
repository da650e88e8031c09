/- The contracts of JoinMatrix, of the program and of the reference, and of what they call. Conditions: at most 2 to the 20 values for the reference's. -/
import Derived.Test.YtfnajbifdilfmaaSM
import Derived.Test.YtfnajbifdilfmaaPairS
import Derived.Test.YtfnajbifdilfmaaPairP
namespace Go.Proofs.Ytfnajbifdilfmaa
open Go Go.RowKit

set_option maxHeartbeats 1600000 in
theorem l1OwnSharedMatrix (r c r' c' : Int) (v v' : Value) (xs ys : List Int) (w : World) (h : Sees w v xs) (h' : Sees w v' ys) (hn : xs.length ≤ 1048576) (hn' : ys.length ≤ 1048576) :
    Calls Try.prog 75 #[.agg #[.int .i64 r, .int .i64 c, v, .int .i64 r', .int .i64 c', v']] w (RetS w r c xs r' c' ys) := by
  obtain ⟨W, hW⟩ : ∃ W, W = ((w.alloc (.cells #[.int .i64 r, .int .i64 c, v, .int .i64 r', .int .i64 c', v'] 40)).alloc (.cells #[.int .i64 0, .int .i64 0, .slice none 0 0, .int .i64 0, .int .i64 0, .slice none 0 0] 40)).alloc (.cells #[.int .i64 r, .int .i64 c, v, .int .i64 r', .int .i64 c', v'] 40) := ⟨_, rfl⟩
  obtain ⟨a, cap, rfl⟩ := h.form
  obtain ⟨a', cap', rfl⟩ := h'.form
  have T1 : Six W w.heap.size (.int .i64 r) (.int .i64 c) (.slice a xs.length cap) (.int .i64 r') (.int .i64 c') (.slice a' ys.length cap') := by rw [hW]; exact ((Six.new w _ _ _ _ _ _ _).alloc _).alloc _
  have T2 : Six W (w.heap.size + 1) (.int .i64 0) (.int .i64 0) (.slice none 0 0) (.int .i64 0) (.int .i64 0) (.slice none 0 0) := by
    rw [hW]; simpa using (Six.new (w.alloc (.cells #[.int .i64 r, .int .i64 c, .slice a xs.length cap, .int .i64 r', .int .i64 c', .slice a' ys.length cap'] 40)) (.int .i64 0) (.int .i64 0) (.slice none 0 0) (.int .i64 0) (.int .i64 0) (.slice none 0 0) 40).alloc (.cells #[.int .i64 r, .int .i64 c, .slice a xs.length cap, .int .i64 r', .int .i64 c', .slice a' ys.length cap'] 40)
  have T3 : Six W (w.heap.size + 1 + 1) (.int .i64 r) (.int .i64 c) (.slice a xs.length cap) (.int .i64 r') (.int .i64 c') (.slice a' ys.length cap') := by
    rw [hW]; simpa using Six.new ((w.alloc (.cells #[.int .i64 r, .int .i64 c, .slice a xs.length cap, .int .i64 r', .int .i64 c', .slice a' ys.length cap'] 40)).alloc (.cells #[.int .i64 0, .int .i64 0, .slice none 0 0, .int .i64 0, .int .i64 0, .slice none 0 0] 40)) (.int .i64 r) (.int .i64 c) (.slice a xs.length cap) (.int .i64 r') (.int .i64 c') (.slice a' ys.length cap') 40
  have G0 : w.grownBy W none := by rw [hW]; exact gbt (World.grownBy_alloc _ _ _) (gbt (World.grownBy_alloc _ _ _) (World.grownBy_alloc _ _ _))
  have hz : w.heap.size + 3 ≤ W.heap.size := by rw [hW]; simp
  have C1 := Lib.hid (l1OwnMatrix r c (.slice a xs.length cap) xs W (h.kept G0) hn)
  rw [hW] at C1 T1 T2 T3 G0 hz
  clear hW
  obtain ⟨p0, p1, p2, p3, p4, p5, _, _, _, _, _, _⟩ := id T1
  go_enter Try.func75, Try.ntmps75
  go_wp2_with fail
  refine C1.out.mono ?_
  clear C1
  rintro e w1 ⟨a1, cap1, rfl, o1, hg⟩
  replace o1 := own_base o1 (b' := w.heap.size + 3) hz
  replace T1 := T1.kept hg (by simp)
  replace T2 := T2.kept hg (by simp)
  replace T3 := T3.kept hg (by simp)
  replace G0 := gbt G0 hg
  replace hz := Nat.le_trans hz hg.size
  clear hg p0 p1 p2 p3 p4 p5
  have hl1 : ∀ q, (Value.slice a1 xs.length cap1).ownBlock = some q → q < w1.heap.size := fun q e => (o1.lt q e).2
  obtain ⟨p0, p1, p2, p3, p4, p5, _, _, _, _, _, _⟩ := id T1
  obtain ⟨q0, q1, q2, q3, q4, q5, q6, q7, q8, q9, qa, qb⟩ := id T3
  obtain ⟨Wx, hWx⟩ : ∃ Wx, Wx = ((w1.setCell ⟨w.heap.size + 1 + 1, 0, none⟩ (.int .i64 r)).setCell ⟨w.heap.size + 1 + 1, 1, none⟩ (.int .i64 c)).setCell ⟨w.heap.size + 1 + 1, 2, none⟩ (.slice a1 xs.length cap1) := ⟨_, rfl⟩
  have gs : w1.grownBy Wx (some (w.heap.size + 1 + 1)) := by rw [hWx]; exact gbt (gbt (gb_set _ _ _ _) (gb_set _ _ _ _)) (gb_set _ _ _ _)
  have T3' : Six Wx (w.heap.size + 1 + 1) (.int .i64 r) (.int .i64 c) (.slice a1 xs.length cap1) (.int .i64 r') (.int .i64 c') (.slice a' ys.length cap') := by
    rw [hWx]
    refine ⟨?_, ?_, ?_, ?_, ?_, ?_, ?_, ?_, ?_, ?_, ?_, ?_⟩
    · rw [World.cell?_setCell_other _ _ _ _ (by simp), World.cell?_setCell_other _ _ _ _ (by simp)]; exact World.cell?_setCell_same _ _ _ q0
    · rw [World.cell?_setCell_other _ _ _ _ (by simp)]; exact World.cell?_setCell_same _ _ _ ((World.cell?_setCell_other _ _ _ _ (by simp)).trans q1)
    · exact World.cell?_setCell_same _ _ _ ((World.cell?_setCell_other _ _ _ _ (by simp)).trans ((World.cell?_setCell_other _ _ _ _ (by simp)).trans q2))
    · rw [World.cell?_setCell_other _ _ _ _ (by simp), World.cell?_setCell_other _ _ _ _ (by simp), World.cell?_setCell_other _ _ _ _ (by simp)]; exact q3
    · rw [World.cell?_setCell_other _ _ _ _ (by simp), World.cell?_setCell_other _ _ _ _ (by simp), World.cell?_setCell_other _ _ _ _ (by simp)]; exact q4
    · rw [World.cell?_setCell_other _ _ _ _ (by simp), World.cell?_setCell_other _ _ _ _ (by simp), World.cell?_setCell_other _ _ _ _ (by simp)]; exact q5
    all_goals (rw [World.frozen?_setCell, World.frozen?_setCell, World.frozen?_setCell]; assumption)
  have T2' := T2.kept gs (by simp)
  have G0' := gb_none G0 gs (fun k e => by cases e; omega)
  have o1' : Wx.ownsRow (w.heap.size + 3) 3 1 (.slice a1 xs.length cap1) xs.length (ints xs) := by rw [hWx]; exact ownsRow_setCell_below (ownsRow_setCell_below (ownsRow_setCell_below o1 (by show w.heap.size + 1 + 1 < w.heap.size + 3; omega) _) (by show w.heap.size + 1 + 1 < w.heap.size + 3; omega) _) (by show w.heap.size + 1 + 1 < w.heap.size + 3; omega) _
  have hz' : w.heap.size + 3 ≤ Wx.heap.size := Nat.le_trans hz gs.size
  have hl2 : ∀ q, (Value.slice a1 xs.length cap1).ownBlock = some q → q < Wx.heap.size := fun q e => Nat.lt_of_lt_of_le (hl1 q e) gs.size
  have C2 := Lib.hid (l1OwnMatrix r' c' (.slice a' ys.length cap') ys Wx (h'.kept G0') hn')
  replace hl2 := Lib.hid hl2
  rw [hWx] at C2 T3' T2' G0' o1' hz' hl2
  clear hWx gs T3 T2 G0 o1 hz T1 hl1
  go_wp2_with fail
  refine C2.out.mono ?_
  clear C2
  clear p0 p1 p2 p3 p4 p5 q0 q1 q2 q3 q4 q5 q6 q7 q8 q9 qa qb
  generalize hWy : ((w1.setCell ⟨w.heap.size + 1 + 1, 0, none⟩ (.int .i64 r)).setCell ⟨w.heap.size + 1 + 1, 1, none⟩ (.int .i64 c)).setCell ⟨w.heap.size + 1 + 1, 2, none⟩ (.slice a1 xs.length cap1) = Wy at *
  clear hWy
  rintro e w2 ⟨a2, cap2, rfl, o2, hg⟩
  replace T2' := T2'.kept hg (by simp)
  replace T3' := T3'.kept hg (by simp)
  replace G0' := gbt G0' hg
  replace o1' := own_kept o1' hg
  clear hg
  obtain ⟨q0, q1, q2, q3, q4, q5, q6, q7, q8, q9, qa, qb⟩ := T3'
  obtain ⟨p0, p1, p2, p3, p4, p5, p6, p7, p8, p9, pa, pb⟩ := T2'
  go_wp2_with fail
  exact bodyPost_ret (v := .agg #[.int .i64 r, .int .i64 c, .slice a1 xs.length cap1, .int .i64 r', .int .i64 c', .slice a2 ys.length cap2]) (by simp [results, Try.results75, go_sem, p0, p1, p2, p3, p4, p5]) rfl
    ⟨a1, cap1, a2, cap2, Wy.heap.size, rfl, own_base (b := w.heap.size + 3) (by repeat (with_reducible first | exact o1' | refine ownsRow_setCell_below ?_ (by first | omega | (simp; omega) | (simp; (first | done | fail))) _)) (by omega),
      by repeat (with_reducible first | exact o2 | refine ownsRow_setCell_below ?_ (by first | omega | (simp; omega) | (simp; (first | done | fail))) _), by omega, hl2.out, by repeat (with_reducible first | exact G0' | refine gb_setNew ?_ (by omega) _ _)⟩
theorem joinMatrix (r c r' c' : Int) (v v' : Value) (xs ys : List Int) (w : World) (h : Sees w v xs) (h' : Sees w v' ys) :
    Calls Try.prog 35 #[.agg #[.int .i64 r, .int .i64 c, v, .int .i64 r', .int .i64 c', v']] w (RetM w (pN (lk r c xs r' c' ys) r) (pN (lk r c xs r' c' ys) c) (pV (lk r c xs r' c' ys) (addL xs ys))) := by
  obtain ⟨W, hW⟩ : ∃ W, W = (w.alloc (.cells #[.int .i64 r, .int .i64 c, v, .int .i64 r', .int .i64 c', v'] 40)).alloc (.cells #[.int .i64 0, .int .i64 0, .slice none 0 0] 26) := ⟨_, rfl⟩
  have T2 : Three W (w.heap.size + 1) (.int .i64 0) (.int .i64 0) (.slice none 0 0) := by rw [hW]; simpa using Three.new (w.alloc (.cells #[.int .i64 r, .int .i64 c, v, .int .i64 r', .int .i64 c', v'] 40)) (.int .i64 0) (.int .i64 0) (.slice none 0 0) 26
  have G0 : w.grownBy W none := by rw [hW]; exact gbt (World.grownBy_alloc _ _ _) (World.grownBy_alloc _ _ _)
  have hz : w.heap.size + 2 ≤ W.heap.size := by rw [hW]; simp
  have C1 := addMatrices r c r' c' v v' xs ys W (h.kept G0) (h'.kept G0)
  obtain ⟨q, hq⟩ : ∃ q, q = lk r c xs r' c' ys := ⟨_, rfl⟩
  obtain ⟨l, hl⟩ : ∃ l, l = pV q (addL xs ys) := ⟨_, rfl⟩
  rw [← hq, ← hl] at C1 ⊢
  replace C1 := Lib.hid C1
  rw [hW] at C1 T2 G0 hz
  clear hW hq hl h h'
  go_enter Try.func35, Try.ntmps35
  go_wp2_with fail
  refine C1.out.mono ?_
  clear C1
  rintro e w1 ⟨a1, cap1, rfl, o1, hg⟩
  replace o1 := own_base o1 (b' := w.heap.size + 2) hz
  replace T2 := T2.kept hg (by simp)
  replace G0 := gbt G0 hg
  clear hg
  obtain ⟨q0, q1, q2, q3, q4, q5⟩ := T2
  go_wp2_with fail
  exact bodyPost_ret (v := .agg #[.int .i64 (pN q r), .int .i64 (pN q c), .slice a1 l.length cap1]) (by simp [results, Try.results35, go_sem, q0, q1, q2]) rfl ⟨_, _, rfl, own_base (b := w.heap.size + 2) (by repeat (first | exact o1 | (refine ownsRow_setCell_below ?_ (by show w.heap.size + 1 < w.heap.size + 2; omega) _))) (by omega), by repeat (first | exact G0 | (refine gb_setNew ?_ (by omega) _ _))⟩
set_option maxHeartbeats 1600000 in
theorem joinMatrix_s (r c r' c' : Int) (v v' : Value) (xs ys : List Int) (w : World) (h : Sees w v xs) (h' : Sees w v' ys) (hn : xs.length ≤ 1048576) (hn' : ys.length ≤ 1048576) :
    Calls Try.prog 37 #[.agg #[.int .i64 r, .int .i64 c, v, .int .i64 r', .int .i64 c', v']] w (RetM w (pN (lk r c xs r' c' ys) r) (pN (lk r c xs r' c' ys) c) (pV (lk r c xs r' c' ys) (addL xs ys))) := by
  obtain ⟨a, cap, rfl⟩ := h.form
  obtain ⟨a', cap', rfl⟩ := h'.form
  obtain ⟨W, hW⟩ : ∃ W, W = (w.alloc (.cells #[.int .i64 r, .int .i64 c, .slice a xs.length cap, .int .i64 r', .int .i64 c', .slice a' ys.length cap'] 40)).alloc (.cells #[.int .i64 0, .int .i64 0, .slice none 0 0] 26) := ⟨_, rfl⟩
  have T1 : Six W w.heap.size (.int .i64 r) (.int .i64 c) (.slice a xs.length cap) (.int .i64 r') (.int .i64 c') (.slice a' ys.length cap') := by rw [hW]; exact (Six.new w _ _ _ _ _ _ _).alloc _
  have T2 : Three W (w.heap.size + 1) (.int .i64 0) (.int .i64 0) (.slice none 0 0) := by rw [hW]; simpa using Three.new (w.alloc (.cells #[.int .i64 r, .int .i64 c, .slice a xs.length cap, .int .i64 r', .int .i64 c', .slice a' ys.length cap'] 40)) (.int .i64 0) (.int .i64 0) (.slice none 0 0) 26
  have G0 : w.grownBy W none := by rw [hW]; exact gbt (World.grownBy_alloc _ _ _) (World.grownBy_alloc _ _ _)
  have hz : w.heap.size + 2 ≤ W.heap.size := by rw [hW]; simp
  have C1 := Lib.hid (l1OwnSharedMatrix r c r' c' _ _ xs ys W (h.kept G0) (h'.kept G0) hn hn')
  rw [hW] at C1 T1 T2 G0 hz
  clear hW h h'
  obtain ⟨q, hq⟩ : ∃ q, q = lk r c xs r' c' ys := ⟨_, rfl⟩
  obtain ⟨l, hl⟩ : ∃ l, l = pV q (addL xs ys) := ⟨_, rfl⟩
  rw [← hq, ← hl]
  have CA : ∀ u v v', Sees u v xs → Sees u v' ys → Calls Try.prog 21 #[.agg #[.int .i64 r, .int .i64 c, v], .agg #[.int .i64 r', .int .i64 c', v']] u (RetM u (pN q r) (pN q c) l) := by intro u v v' k k'; rw [hl, hq]; exact addMatrices_s _ _ _ _ _ _ _ _ _ k k' hn hn'
  replace CA := Lib.hid CA
  clear hq hl
  obtain ⟨p0, p1, p2, p3, p4, p5, _, _, _, _, _, _⟩ := id T1
  go_enter Try.func37, Try.ntmps37
  go_wp2_with fail
  refine C1.out.mono ?_
  clear C1
  rintro e w1 ⟨a1, cap1, a2, cap2, k, rfl, o1, o2, hk, _, hg⟩
  replace T1 := T1.kept hg (by simp)
  replace T2 := T2.kept hg (by simp)
  replace G0 := gbt G0 hg
  replace o1 := own_base o1 (b' := w.heap.size + 2) hz
  replace o2 := own_base o2 (b' := w.heap.size + 2) (by omega)
  replace hz := Nat.le_trans hz hg.size
  clear hg p0 p1 p2 p3 p4 p5
  obtain ⟨p0, p1, p2, p3, p4, p5, p6, p7, p8, p9, pa, pb⟩ := T1
  obtain ⟨Wx, hWx⟩ : ∃ Wx, Wx = ((((((w1.setCell ⟨w.heap.size, 0, none⟩ (.int .i64 r)).setCell ⟨w.heap.size, 1, none⟩ (.int .i64 c)).setCell ⟨w.heap.size, 2, none⟩ (.slice a1 xs.length cap1)).setCell ⟨w.heap.size, 3, none⟩ (.int .i64 r')).setCell ⟨w.heap.size, 4, none⟩ (.int .i64 c')).setCell ⟨w.heap.size, 5, none⟩ (.slice a2 ys.length cap2)) := ⟨_, rfl⟩
  have gs : w1.grownBy Wx (some w.heap.size) := by rw [hWx]; exact gbt (gbt (gbt (gbt (gbt (gb_set _ _ _ _) (gb_set _ _ _ _)) (gb_set _ _ _ _)) (gb_set _ _ _ _)) (gb_set _ _ _ _)) (gb_set _ _ _ _)
  replace T2 := T2.kept gs (by simp)
  replace G0 := gb_none G0 gs (fun k e => by cases e; omega)
  have B1 : ∀ {n : Nat} {v : Value} {l : List Value}, w1.ownsRow (w.heap.size + 2) 3 1 v n l → Wx.ownsRow (w.heap.size + 2) 3 1 v n l := by
    intro n v l h
    rw [hWx]
    repeat (with_reducible first | exact h | refine ownsRow_setCell_below ?_ (by show w.heap.size < w.heap.size + 2; omega) _)
  have s1 := Sees.of_own (B1 o1)
  have s2 := Sees.of_own (B1 o2)
  have C2 := Lib.hid (CA.out Wx _ _ s1 s2)
  replace hz := Nat.le_trans hz gs.size
  rw [hWx] at C2 T2 G0 hz
  clear hWx gs B1 s1 s2 o1 o2 CA
  go_wp2_with fail
  refine C2.out.mono ?_
  clear C2
  rintro e w2 ⟨a3, cap3, rfl, o3, hg⟩
  replace o3 := own_base o3 (b' := w.heap.size + 2) hz
  replace T2 := T2.kept hg (by simp)
  replace G0 := gbt G0 hg
  clear hg
  obtain ⟨q0, q1, q2, q3, q4, q5⟩ := T2
  clear p0 p1 p2 p3 p4 p5 p6 p7 p8 p9 pa pb
  go_wp2_with fail
  exact bodyPost_ret (v := .agg #[.int .i64 (pN q r), .int .i64 (pN q c), .slice a3 l.length cap3]) (by simp [results, Try.results37, go_sem, q0, q1, q2]) rfl ⟨_, _, rfl, own_base (b := w.heap.size + 2) (by repeat (first | exact o3 | (refine ownsRow_setCell_below ?_ (by show w.heap.size + 1 < w.heap.size + 2; omega) _))) (by omega), by repeat (first | exact G0 | (refine gb_setNew ?_ (by omega) _ _))⟩
theorem markSharedMatrix (r c r' c' : Int) (base base' : Nat) (v v' : Value) (xs ys : List Int) (n n' : Nat) (k0 : Int) (w : World) (h : w.ownsRow base 3 1 v n (ints xs)) (h' : w.ownsRow base' 3 1 v' n' (ints ys)) (hne : v'.ownBlock = none ∨ v'.ownBlock ≠ v.ownBlock) (hn : n ≤ 1048576) (hn' : n' ≤ 1048576) (hk0 : 0 ≤ k0 ∧ k0 ≤ 1073741824) :
    Calls Try.prog 40 #[.agg #[.int .i64 r, .int .i64 c, v, .int .i64 r', .int .i64 c', v'], .int .i64 k0] w fun e w' => e = .returned (.int .i64 (k0 + n + n')) ∧ ∃ wm, w.grownBy wm v.ownBlock ∧ wm.grownBy w' v'.ownBlock := by
  have T1 := Six.new w (.int .i64 r) (.int .i64 c) v (.int .i64 r') (.int .i64 c') v' 40
  have G1 : w.grownBy (w.alloc (.cells #[.int .i64 r, .int .i64 c, v, .int .i64 r', .int .i64 c', v'] 40)) v.ownBlock := World.grownBy_alloc _ _ _
  have hlt : ∀ q, v.ownBlock = some q → q < w.heap.size := fun q e => (h.lt q e).2
  have h1 := h.alloc (.cells #[.int .i64 r, .int .i64 c, v, .int .i64 r', .int .i64 c', v'] 40)
  have h2 := h'.alloc (.cells #[.int .i64 r, .int .i64 c, v, .int .i64 r', .int .i64 c', v'] 40)
  obtain ⟨m1, m2⟩ := hk0
  obtain ⟨av, cv, rfl⟩ := own_slice h
  obtain ⟨av', cv', rfl⟩ := own_slice h'
  go_enter Try.func40, Try.ntmps40
  go_wp2_with fail
  refine (markMatrix _ _ base n _ xs k0 _ h1 (by omega) (by constructor <;> omega)).mono ?_
  rintro e w1 ⟨rfl, _, hg⟩
  replace T1 := T1.kept hg (by intro e; have := hlt _ e.symm; omega)
  replace h2 := h2.kept hg hne
  have G2 := gbt G1 hg
  clear hg h1 G1
  obtain ⟨p0, p1, p2, p3, p4, p5, _, _, _, _, _, _⟩ := T1
  go_wp2_with fail
  refine (markMatrix _ _ base' n' _ ys (k0 + n) _ h2 (by omega) (by constructor <;> omega)).mono ?_
  rintro e w2 ⟨rfl, _, hg⟩
  go_wp2_with fail
  go_ret
  exact ⟨rfl, w1, G2, hg⟩
end Go.Proofs.Ytfnajbifdilfmaa
