/- The contracts of shared matrices: copies, sizes, comparisons. Conditions: at most 2 to the 20 values where they are copied. -/
import Derived.Test.YtfnajbifdilfmaaPair
import Derived.Test.YtfnajbifdilfmaaPairS
namespace Go.Proofs.Ytfnajbifdilfmaa
open Go Go.RowKit

/-- A block of six cells of one's own. -/
structure Six (w : World) (B : Nat) (x0 x1 x2 x3 x4 x5 : Value) : Prop where
  c0 : w.cell? ⟨B, 0, none⟩ = some x0
  c1 : w.cell? ⟨B, 1, none⟩ = some x1
  c2 : w.cell? ⟨B, 2, none⟩ = some x2
  c3 : w.cell? ⟨B, 3, none⟩ = some x3
  c4 : w.cell? ⟨B, 4, none⟩ = some x4
  c5 : w.cell? ⟨B, 5, none⟩ = some x5
  f0 : w.frozen? ⟨B, 0, none⟩ = false
  f1 : w.frozen? ⟨B, 1, none⟩ = false
  f2 : w.frozen? ⟨B, 2, none⟩ = false
  f3 : w.frozen? ⟨B, 3, none⟩ = false
  f4 : w.frozen? ⟨B, 4, none⟩ = false
  f5 : w.frozen? ⟨B, 5, none⟩ = false
theorem Six.new (w : World) (x0 x1 x2 x3 x4 x5 : Value) (T : TypeId) : Six (w.alloc (.cells #[x0, x1, x2, x3, x4, x5] T)) w.heap.size x0 x1 x2 x3 x4 x5 :=
  ⟨by rw [World.cell?_alloc_at _ _ _ _ rfl]; rfl, by rw [World.cell?_alloc_at _ _ _ _ rfl]; rfl, by rw [World.cell?_alloc_at _ _ _ _ rfl]; rfl, by rw [World.cell?_alloc_at _ _ _ _ rfl]; rfl, by rw [World.cell?_alloc_at _ _ _ _ rfl]; rfl, by rw [World.cell?_alloc_at _ _ _ _ rfl]; rfl,
    World.frozen?_alloc_at _ _ _ _ rfl, World.frozen?_alloc_at _ _ _ _ rfl, World.frozen?_alloc_at _ _ _ _ rfl, World.frozen?_alloc_at _ _ _ _ rfl, World.frozen?_alloc_at _ _ _ _ rfl, World.frozen?_alloc_at _ _ _ _ rfl⟩
theorem Six.kept {w w' : World} {B : Nat} {x0 x1 x2 x3 x4 x5 : Value} {row : Option Nat} (h : Six w B x0 x1 x2 x3 x4 x5) (hg : w.grownBy w' row) (hne : some B ≠ row) : Six w' B x0 x1 x2 x3 x4 x5 := by
  have hB : B < w.heap.size := World.block_lt_of_cell? w _ h.c0
  have hf : ∀ o, w'.frozen? ⟨B, o, none⟩ = w.frozen? ⟨B, o, none⟩ := fun o => World.frozen?_of_block (hg.block B hB hne)
  exact ⟨hg.cell h.c0 hne, hg.cell h.c1 hne, hg.cell h.c2 hne, hg.cell h.c3 hne, hg.cell h.c4 hne, hg.cell h.c5 hne, (hf 0).trans h.f0, (hf 1).trans h.f1, (hf 2).trans h.f2, (hf 3).trans h.f3, (hf 4).trans h.f4, (hf 5).trans h.f5⟩
theorem Six.alloc {w : World} {B : Nat} {x0 x1 x2 x3 x4 x5 : Value} (h : Six w B x0 x1 x2 x3 x4 x5) (o : Obj) : Six (w.alloc o) B x0 x1 x2 x3 x4 x5 := h.kept (World.grownBy_alloc w o none) (by simp)
theorem Six.lt {w : World} {B : Nat} {x0 x1 x2 x3 x4 x5 : Value} (h : Six w B x0 x1 x2 x3 x4 x5) : B < w.heap.size := World.block_lt_of_cell? w _ h.c0

/-- A shared matrix of new memory is returned: the second part's memory lies behind the first one's. -/
def RetS (w : World) (r c : Int) (xs : List Int) (r' c' : Int) (ys : List Int) (e : Ending) (w' : World) : Prop :=
  ∃ (a : Option Addr) (cap : Nat) (a' : Option Addr) (cap' k : Nat), e = .returned (.agg #[.int .i64 r, .int .i64 c, .slice a xs.length cap, .int .i64 r', .int .i64 c', .slice a' ys.length cap']) ∧
    w'.ownsRow w.heap.size 3 1 (.slice a xs.length cap) xs.length (ints xs) ∧ w'.ownsRow k 3 1 (.slice a' ys.length cap') ys.length (ints ys) ∧ w.heap.size ≤ k ∧ (∀ q, (Value.slice a xs.length cap).ownBlock = some q → q < k) ∧ w.grownBy w' none

set_option maxHeartbeats 1600000 in
theorem toSharedMatrix (r c r' c' : Int) (v v' : Value) (xs ys : List Int) (w : World) (h : Sees w v xs) (h' : Sees w v' ys) (hn : xs.length ≤ 1048576) (hn' : ys.length ≤ 1048576) :
    Calls Try.prog 38 #[.agg #[.int .i64 r, .int .i64 c, v, .int .i64 r', .int .i64 c', v']] w (RetS w r c xs r' c' ys) := by
  obtain ⟨W, hW⟩ : ∃ W, W = ((w.alloc (.cells #[.int .i64 r, .int .i64 c, v, .int .i64 r', .int .i64 c', v'] 45)).alloc (.cells #[.int .i64 0, .int .i64 0, .slice none 0 0, .int .i64 0, .int .i64 0, .slice none 0 0] 40)).alloc (.cells #[.int .i64 0, .int .i64 0, .slice none 0 0, .int .i64 0, .int .i64 0, .slice none 0 0] 40) := ⟨_, rfl⟩
  obtain ⟨a, cap, rfl⟩ := h.form
  obtain ⟨a', cap', rfl⟩ := h'.form
  have T1 : Six W w.heap.size (.int .i64 r) (.int .i64 c) (.slice a xs.length cap) (.int .i64 r') (.int .i64 c') (.slice a' ys.length cap') := by rw [hW]; exact ((Six.new w _ _ _ _ _ _ _).alloc _).alloc _
  have T2 : Six W (w.heap.size + 1) (.int .i64 0) (.int .i64 0) (.slice none 0 0) (.int .i64 0) (.int .i64 0) (.slice none 0 0) := by
    rw [hW]; simpa using (Six.new (w.alloc (.cells #[.int .i64 r, .int .i64 c, .slice a xs.length cap, .int .i64 r', .int .i64 c', .slice a' ys.length cap'] 45)) (.int .i64 0) (.int .i64 0) (.slice none 0 0) (.int .i64 0) (.int .i64 0) (.slice none 0 0) 40).alloc (.cells #[.int .i64 0, .int .i64 0, .slice none 0 0, .int .i64 0, .int .i64 0, .slice none 0 0] 40)
  have T3 : Six W (w.heap.size + 1 + 1) (.int .i64 0) (.int .i64 0) (.slice none 0 0) (.int .i64 0) (.int .i64 0) (.slice none 0 0) := by
    rw [hW]; simpa using Six.new ((w.alloc (.cells #[.int .i64 r, .int .i64 c, .slice a xs.length cap, .int .i64 r', .int .i64 c', .slice a' ys.length cap'] 45)).alloc (.cells #[.int .i64 0, .int .i64 0, .slice none 0 0, .int .i64 0, .int .i64 0, .slice none 0 0] 40)) (.int .i64 0) (.int .i64 0) (.slice none 0 0) (.int .i64 0) (.int .i64 0) (.slice none 0 0) 40
  have G0 : w.grownBy W none := by rw [hW]; exact gbt (World.grownBy_alloc _ _ _) (gbt (World.grownBy_alloc _ _ _) (World.grownBy_alloc _ _ _))
  have hz : w.heap.size + 3 ≤ W.heap.size := by rw [hW]; simp
  have C1 := Lib.hid (toMatrix r c (.slice a xs.length cap) xs W (h.kept G0) hn)
  rw [hW] at C1 T1 T2 T3 G0 hz
  clear hW
  obtain ⟨p0, p1, p2, p3, p4, p5, _, _, _, _, _, _⟩ := id T1
  go_enter Try.func38, Try.ntmps38
  go_wp2_with fail
  refine C1.out.mono ?_
  clear C1
  rintro e w1 ⟨v1, rfl, o1, hg⟩
  obtain ⟨a1, cap1, rfl⟩ := own_slice o1
  replace o1 := own_base o1 (b' := w.heap.size + 3) hz
  replace T1 := T1.kept hg (by simp)
  replace T2 := T2.kept hg (by simp)
  replace T3 := T3.kept hg (by simp)
  replace G0 := gbt G0 hg
  replace hz := Nat.le_trans hz hg.size
  clear hg p0 p1 p2 p3 p4 p5
  have hl1 : ∀ q, (Value.slice a1 xs.length cap1).ownBlock = some q → q < w1.heap.size := fun q e => (o1.lt q e).2
  obtain ⟨p0, p1, p2, p3, p4, p5, _, _, _, _, _, _⟩ := id T1
  obtain ⟨q0, q1, q2, q3, q4, q5, q6, q7, q8, q9, qa, qb⟩ := id T3
  obtain ⟨Wx, hWx⟩ : ∃ Wx, Wx = ((w1.setCell ⟨w.heap.size + 1 + 1, 0, none⟩ (.int .i64 r)).setCell ⟨w.heap.size + 1 + 1, 1, none⟩ (.int .i64 c)).setCell ⟨w.heap.size + 1 + 1, 2, none⟩ (.slice a1 xs.length cap1) := ⟨_, rfl⟩
  have gs : w1.grownBy Wx (some (w.heap.size + 1 + 1)) := by rw [hWx]; exact gbt (gbt (gb_set _ _ _ _) (gb_set _ _ _ _)) (gb_set _ _ _ _)
  have T3' : Six Wx (w.heap.size + 1 + 1) (.int .i64 r) (.int .i64 c) (.slice a1 xs.length cap1) (.int .i64 0) (.int .i64 0) (.slice none 0 0) := by
    rw [hWx]
    refine ⟨?_, ?_, ?_, ?_, ?_, ?_, ?_, ?_, ?_, ?_, ?_, ?_⟩
    · rw [World.cell?_setCell_other _ _ _ _ (by simp), World.cell?_setCell_other _ _ _ _ (by simp)]; exact World.cell?_setCell_same _ _ _ q0
    · rw [World.cell?_setCell_other _ _ _ _ (by simp)]; exact World.cell?_setCell_same _ _ _ ((World.cell?_setCell_other _ _ _ _ (by simp)).trans q1)
    · exact World.cell?_setCell_same _ _ _ ((World.cell?_setCell_other _ _ _ _ (by simp)).trans ((World.cell?_setCell_other _ _ _ _ (by simp)).trans q2))
    · rw [World.cell?_setCell_other _ _ _ _ (by simp), World.cell?_setCell_other _ _ _ _ (by simp), World.cell?_setCell_other _ _ _ _ (by simp)]; exact q3
    · rw [World.cell?_setCell_other _ _ _ _ (by simp), World.cell?_setCell_other _ _ _ _ (by simp), World.cell?_setCell_other _ _ _ _ (by simp)]; exact q4
    · rw [World.cell?_setCell_other _ _ _ _ (by simp), World.cell?_setCell_other _ _ _ _ (by simp), World.cell?_setCell_other _ _ _ _ (by simp)]; exact q5
    all_goals (rw [World.frozen?_setCell, World.frozen?_setCell, World.frozen?_setCell]; assumption)
  have T2' := T2.kept gs (by simp)
  have G0' := gb_none G0 gs (fun k e => by cases e; omega)
  have o1' : Wx.ownsRow (w.heap.size + 3) 3 1 (.slice a1 xs.length cap1) xs.length (ints xs) := by rw [hWx]; exact ownsRow_setCell_below (ownsRow_setCell_below (ownsRow_setCell_below o1 (by show w.heap.size + 1 + 1 < w.heap.size + 3; omega) _) (by show w.heap.size + 1 + 1 < w.heap.size + 3; omega) _) (by show w.heap.size + 1 + 1 < w.heap.size + 3; omega) _
  have hz' : w.heap.size + 3 ≤ Wx.heap.size := Nat.le_trans hz gs.size
  have hl2 : ∀ q, (Value.slice a1 xs.length cap1).ownBlock = some q → q < Wx.heap.size := fun q e => Nat.lt_of_lt_of_le (hl1 q e) gs.size
  have C2 := Lib.hid (toMatrix r' c' (.slice a' ys.length cap') ys Wx (h'.kept G0') hn')
  replace hl2 := Lib.hid hl2
  rw [hWx] at C2 T3' T2' G0' o1' hz' hl2
  clear hWx gs T3 T2 G0 o1 hz T1 hl1
  go_wp2_with fail
  refine C2.out.mono ?_
  clear C2
  clear p0 p1 p2 p3 p4 p5 q0 q1 q2 q3 q4 q5 q6 q7 q8 q9 qa qb
  generalize hWy : ((w1.setCell ⟨w.heap.size + 1 + 1, 0, none⟩ (.int .i64 r)).setCell ⟨w.heap.size + 1 + 1, 1, none⟩ (.int .i64 c)).setCell ⟨w.heap.size + 1 + 1, 2, none⟩ (.slice a1 xs.length cap1) = Wy at *
  clear hWy
  rintro e w2 ⟨v2, rfl, o2, hg⟩
  obtain ⟨a2, cap2, rfl⟩ := own_slice o2
  replace T2' := T2'.kept hg (by simp)
  replace T3' := T3'.kept hg (by simp)
  replace G0' := gbt G0' hg
  replace o1' := own_kept o1' hg
  clear hg
  obtain ⟨q0, q1, q2, q3, q4, q5, q6, q7, q8, q9, qa, qb⟩ := T3'
  obtain ⟨p0, p1, p2, p3, p4, p5, p6, p7, p8, p9, pa, pb⟩ := T2'
  go_wp2_with fail
  exact bodyPost_ret (v := .agg #[.int .i64 r, .int .i64 c, .slice a1 xs.length cap1, .int .i64 r', .int .i64 c', .slice a2 ys.length cap2]) (by simp [results, Try.results38, go_sem, p0, p1, p2, p3, p4, p5]) rfl
    ⟨a1, cap1, a2, cap2, Wy.heap.size, rfl, own_base (b := w.heap.size + 3) (by repeat (with_reducible first | exact o1' | refine ownsRow_setCell_below ?_ (by first | omega | (simp; omega) | (simp; (first | done | fail))) _)) (by omega),
      by repeat (with_reducible first | exact o2 | refine ownsRow_setCell_below ?_ (by first | omega | (simp; omega) | (simp; (first | done | fail))) _), by omega, hl2.out, by repeat (with_reducible first | exact G0' | refine gb_setNew ?_ (by omega) _ _)⟩
theorem szSharedMatrix (r c r' c' : Int) (v v' : Value) (xs ys : List Int) (w : World) (h : Sees w v xs) (h' : Sees w v' ys) (res : Int) (hres : (if xs.length + ys.length ≤ 1048576 then 1048576 - (xs.length : Int) - ys.length else -1) = res) :
    Calls Try.prog 36 #[.agg #[.int .i64 r, .int .i64 c, v, .int .i64 r', .int .i64 c', v'], .int .i64 1048576] w fun e w' => e = .returned (.int .i64 res) ∧ w.grownBy w' none := by
  have G0 : w.grownBy (w.alloc (.cells #[.int .i64 r, .int .i64 c, v, .int .i64 r', .int .i64 c', v'] 45)) none := World.grownBy_alloc _ _ _
  have T1 := Six.new w (.int .i64 r) (.int .i64 c) v (.int .i64 r') (.int .i64 c') v' 45
  replace h := h.kept G0
  replace h' := h'.kept G0
  by_cases hx : xs.length ≤ 1048576
  · have ok0 : ¬ (1048576 - (xs.length : Int)) < 0 := by omega
    by_cases hy : xs.length + ys.length ≤ 1048576
    · rw [if_pos hy] at hres
      have ok1 : ¬ (1048576 - (xs.length : Int) - (ys.length : Int)) < 0 := by omega
      go_enter Try.func36, Try.ntmps36
      go_wp2_with fail
      refine (szMatrix _ _ _ xs (1048576) (1048576 - (xs.length : Int)) _ h (by constructor <;> omega) (szL_ok (by omega))).mono ?_
      rintro e w1 ⟨rfl, hg⟩
      replace T1 := T1.kept hg (by simp)
      replace h' := h'.kept hg
      replace G0 := gbt G0 hg
      obtain ⟨p0, p1, p2, p3, p4, p5, _, _, _, _, _, _⟩ := T1
      clear hg
      go_wp2_with fail
      refine (szMatrix _ _ _ ys (1048576 - (xs.length : Int)) (1048576 - (xs.length : Int) - (ys.length : Int)) _ h' (by constructor <;> omega) (szL_ok (by omega))).mono ?_
      rintro e w2 ⟨rfl, hg⟩
      replace G0 := gbt G0 hg
      clear hg
      go_wp2_with fail
      go_ret
      exact ⟨rfl, G0⟩
    · rw [if_neg hy] at hres
      subst hres
      go_enter Try.func36, Try.ntmps36
      go_wp2_with fail
      refine (szMatrix _ _ _ xs (1048576) (1048576 - (xs.length : Int)) _ h (by constructor <;> omega) (szL_ok (by omega))).mono ?_
      rintro e w1 ⟨rfl, hg⟩
      replace T1 := T1.kept hg (by simp)
      replace h' := h'.kept hg
      replace G0 := gbt G0 hg
      obtain ⟨p0, p1, p2, p3, p4, p5, _, _, _, _, _, _⟩ := T1
      clear hg
      go_wp2_with fail
      refine (szMatrix _ _ _ ys (1048576 - (xs.length : Int)) (-1) _ h' (by constructor <;> omega) (szL_big (by omega))).mono ?_
      rintro e w2 ⟨rfl, hg⟩
      replace G0 := gbt G0 hg
      clear hg
      go_wp2_with fail
      go_ret
      exact ⟨rfl, G0⟩
  · rw [if_neg (by omega)] at hres
    subst hres
    go_enter Try.func36, Try.ntmps36
    go_wp2_with fail
    refine (szMatrix _ _ _ xs (1048576) (-1) _ h (by constructor <;> omega) (szL_big (by omega))).mono ?_
    rintro e w1 ⟨rfl, hg⟩
    replace G0 := gbt G0 hg
    clear hg
    go_wp2_with fail
    go_ret
    exact ⟨rfl, G0⟩
theorem eqSharedMatrix (r c r' c' : Int) (v v' u u' : Value) (xs ys : List Int) (w : World) (h : Sees w v xs) (h' : Sees w v' ys) (k : Sees w u xs) (k' : Sees w u' ys) :
    Calls Try.prog 39 #[.agg #[.int .i64 r, .int .i64 c, v, .int .i64 r', .int .i64 c', v'], .agg #[.int .i64 r, .int .i64 c, u, .int .i64 r', .int .i64 c', u']] w fun e w' => e = .returned (.bool true) ∧ w.grownBy w' none := by
  have T1 : Six ((w.alloc (.cells #[.int .i64 r, .int .i64 c, v, .int .i64 r', .int .i64 c', v'] 40)).alloc (.cells #[.int .i64 r, .int .i64 c, u, .int .i64 r', .int .i64 c', u'] 40)) w.heap.size (.int .i64 r) (.int .i64 c) v (.int .i64 r') (.int .i64 c') v' := (Six.new w _ _ _ _ _ _ _).alloc _
  have T2 : Six ((w.alloc (.cells #[.int .i64 r, .int .i64 c, v, .int .i64 r', .int .i64 c', v'] 40)).alloc (.cells #[.int .i64 r, .int .i64 c, u, .int .i64 r', .int .i64 c', u'] 40)) (w.heap.size + 1) (.int .i64 r) (.int .i64 c) u (.int .i64 r') (.int .i64 c') u' := by
    simpa using Six.new (w.alloc (.cells #[.int .i64 r, .int .i64 c, v, .int .i64 r', .int .i64 c', v'] 40)) (.int .i64 r) (.int .i64 c) u (.int .i64 r') (.int .i64 c') u' 40
  have G0 : w.grownBy ((w.alloc (.cells #[.int .i64 r, .int .i64 c, v, .int .i64 r', .int .i64 c', v'] 40)).alloc (.cells #[.int .i64 r, .int .i64 c, u, .int .i64 r', .int .i64 c', u'] 40)) none := gbt (World.grownBy_alloc _ _ _) (World.grownBy_alloc _ _ _)
  replace h := h.kept G0
  replace h' := h'.kept G0
  replace k := k.kept G0
  replace k' := k'.kept G0
  go_enter Try.func39, Try.ntmps39
  go_wp2_with fail
  refine (eqMatrix _ _ _ _ xs _ h k).mono ?_
  rintro e w1 ⟨rfl, hg⟩
  replace T1 := T1.kept hg (by simp)
  replace T2 := T2.kept hg (by simp)
  replace h' := h'.kept hg
  replace k' := k'.kept hg
  replace G0 := gbt G0 hg
  clear hg h k
  obtain ⟨p0, p1, p2, p3, p4, p5, _, _, _, _, _, _⟩ := T1
  obtain ⟨q0, q1, q2, q3, q4, q5, _, _, _, _, _, _⟩ := T2
  go_wp2_with fail
  refine (eqMatrix _ _ _ _ ys _ h' k').mono ?_
  rintro e w2 ⟨rfl, hg⟩
  replace G0 := gbt G0 hg
  clear hg
  go_wp2_with fail
  go_ret
  exact ⟨rfl, G0⟩
theorem sharedMatrixValid (r c r' c' : Int) (v v' : Value) (xs ys : List Int) (w : World) (h : Sees w v xs) (h' : Sees w v' ys) (q : Bool) (hq : lk r c xs r' c' ys = q) :
    Calls Try.prog 33 #[.agg #[.int .i64 r, .int .i64 c, v, .int .i64 r', .int .i64 c', v']] w fun e w' => e = .returned (.bool q) ∧ w.grownBy w' none := by
  have T1 := Six.new w (.int .i64 r) (.int .i64 c) v (.int .i64 r') (.int .i64 c') v' 40
  have G0 : w.grownBy (w.alloc (.cells #[.int .i64 r, .int .i64 c, v, .int .i64 r', .int .i64 c', v'] 40)) none := World.grownBy_alloc _ _ _
  replace h := h.kept G0
  replace h' := h'.kept G0
  obtain ⟨a, cap, rfl⟩ := h.form
  obtain ⟨a', cap', rfl⟩ := h'.form
  by_cases m1 : mv r c xs = true
  · by_cases m2 : mv r' c' ys = true
    · have hsd : (decide (r = r') && decide (c = c')) = q := by rw [← hq]; simp [lk, m1, m2]
      go_enter Try.func33, Try.ntmps33
      go_wp2_with fail
      refine (mvq true _ _ _ xs _ h m1).mono ?_
      rintro e w1 ⟨rfl, hg⟩
      replace T1 := T1.kept hg (by simp)
      replace h' := h'.kept hg
      replace G0 := gbt G0 hg
      clear hg h
      obtain ⟨p0, p1, p2, p3, p4, p5, _, _, _, _, _, _⟩ := id T1
      go_wp2_with fail
      refine (mvq true _ _ _ ys _ h' m2).mono ?_
      rintro e w2 ⟨rfl, hg⟩
      clear p0 p1 p2 p3 p4 p5
      replace T1 := T1.kept hg (by simp)
      replace G0 := gbt G0 hg
      clear hg h'
      obtain ⟨p0, p1, p2, p3, p4, p5, _, _, _, _, _, _⟩ := id T1
      go_wp2_with fail
      refine (sameSides q _ _ _ _ _ _ _ hsd).mono ?_
      rintro e w3 ⟨rfl, hg⟩
      replace G0 := gbt G0 hg
      clear hsd hq
      go_wp2_with fail
      go_ret
      exact ⟨rfl, G0⟩
    · have m2' : mv r' c' ys = false := by simpa using m2
      obtain rfl : q = false := by rw [← hq]; simp [lk, m2]
      go_enter Try.func33, Try.ntmps33
      go_wp2_with fail
      refine (mvq true _ _ _ xs _ h m1).mono ?_
      rintro e w1 ⟨rfl, hg⟩
      replace T1 := T1.kept hg (by simp)
      replace h' := h'.kept hg
      replace G0 := gbt G0 hg
      clear hg h hq
      obtain ⟨p0, p1, p2, p3, p4, p5, _, _, _, _, _, _⟩ := id T1
      go_wp2_with fail
      refine (mvq false _ _ _ ys _ h' m2').mono ?_
      rintro e w2 ⟨rfl, hg⟩
      replace G0 := gbt G0 hg
      go_wp2_with fail
      go_ret
      exact ⟨rfl, G0⟩
  · have m1' : mv r c xs = false := by simpa using m1
    obtain rfl : q = false := by rw [← hq]; simp [lk, m1]
    clear hq
    go_enter Try.func33, Try.ntmps33
    go_wp2_with fail
    refine (mvq false _ _ _ xs _ h m1').mono ?_
    rintro e w1 ⟨rfl, hg⟩
    replace G0 := gbt G0 hg
    go_wp2_with fail
    go_ret
    exact ⟨rfl, G0⟩
theorem sharedMatrixValid_s (r c r' c' : Int) (v v' : Value) (xs ys : List Int) (w : World) (h : Sees w v xs) (h' : Sees w v' ys) (q : Bool) (hq : lk r c xs r' c' ys = q) :
    Calls Try.prog 34 #[.agg #[.int .i64 r, .int .i64 c, v, .int .i64 r', .int .i64 c', v']] w fun e w' => e = .returned (.bool q) ∧ w.grownBy w' none := by
  have G0 : w.grownBy (w.alloc (.cells #[.int .i64 r, .int .i64 c, v, .int .i64 r', .int .i64 c', v'] 40)) none := World.grownBy_alloc _ _ _
  replace h := h.kept G0
  replace h' := h'.kept G0
  go_enter Try.func34, Try.ntmps34
  go_wp2_with fail
  refine (l3Like q _ _ _ _ _ _ xs ys _ h h' hq).mono ?_
  rintro e w1 ⟨rfl, hg⟩
  go_wp2_with fail
  go_ret
  exact ⟨rfl, gbt G0 hg⟩
end Go.Proofs.Ytfnajbifdilfmaa
