/- The contracts of the reference's TurnMatrix and of its copies of matrices. Conditions: at most 2 to the 20 values. -/
import Derived.Test.YthcochdkclmejaaTurn
import Derived.Laws.AppendOwnNone
namespace Go.Proofs.Ythcochdkclmejaa
open Go Go.RowKit

theorem sees_news {w : World} {ad : Addr} {n cap : Nat} {xs : List Int} (h : Sees w (.slice (some ad) n cap) xs) : ∀ j u, (ints xs)[j]? = some u → w.cell? (ad.add j) = some u := by
  intro j u hu
  obtain ⟨a, c, e, _, _, hc⟩ := h
  simp at e
  have hj : j < xs.length := by
    rcases Nat.lt_or_ge j xs.length with h | h
    · exact h
    · simp [h] at hu
  obtain ⟨blk, off, e2, hcell⟩ := hc (by intro e; rw [e] at hj; simp at hj)
  obtain ⟨rfl, rfl, rfl⟩ := e
  simp at e2
  subst e2
  have h1 := hcell j hj
  have hu2 : u = .int .i64 (xs.getD j 0) := by
    simp [hj] at hu
    rw [← hu]; simp [List.getD_eq_getElem?_getD, hj]
  rw [hu2]
  rcases Nat.eq_zero_or_pos j with rfl | hp
  · simpa [Addr.add] using h1
  · simpa [Addr.add, Nat.ne_of_gt hp] using h1
theorem sees_nil {w : World} {n cap : Nat} {xs : List Int} (h : Sees w (.slice none n cap) xs) : xs = [] ∧ cap = 0 := by
  obtain ⟨a, c, e, ⟨_, h0⟩, _, hc⟩ := h
  simp at e
  obtain ⟨rfl, rfl, rfl⟩ := e
  cases xs with
  | nil => exact ⟨rfl, h0 rfl⟩
  | cons x xs => obtain ⟨_, _, e, _⟩ := hc (by simp); cases e

set_option maxHeartbeats 400000 in
theorem l1OwnMatrix (r c : Int) (v : Value) (xs : List Int) (w : World) (h : Sees w v xs) (hn : xs.length ≤ 1048576) :
    Calls Try.prog 76 #[.agg #[.int .i64 r, .int .i64 c, v]] w (RetM w r c xs) := by
  obtain ⟨i0, hi, hz0, hz1, hz2⟩ := info_parts info_int
  obtain ⟨W, hW⟩ : ∃ W, W = ((w.alloc (.cells #[.int .i64 r, .int .i64 c, v] 39)).alloc (.cells #[.int .i64 0, .int .i64 0, .slice none 0 0] 39)).alloc (.cells #[.int .i64 r, .int .i64 c, v] 39) := ⟨_, rfl⟩
  obtain ⟨a, cap, hv⟩ : ∃ a cap, v = .slice a xs.length cap := by obtain ⟨a, cap, e, _⟩ := h; exact ⟨a, cap, e⟩
  subst hv
  have T1 : Three W w.heap.size (.int .i64 r) (.int .i64 c) (.slice a xs.length cap) := by rw [hW]; exact ((Three.new w _ _ _ _).alloc _).alloc _
  have T2 : Three W (w.heap.size + 1) (.int .i64 0) (.int .i64 0) (.slice none 0 0) := by
    rw [hW]; simpa using (Three.new (w.alloc (.cells #[.int .i64 r, .int .i64 c, .slice a xs.length cap] 39)) (.int .i64 0) (.int .i64 0) (.slice none 0 0) 39).alloc (.cells #[.int .i64 r, .int .i64 c, .slice a xs.length cap] 39)
  have T3 : Three W (w.heap.size + 1 + 1) (.int .i64 r) (.int .i64 c) (.slice a xs.length cap) := by
    rw [hW]; simpa using Three.new ((w.alloc (.cells #[.int .i64 r, .int .i64 c, .slice a xs.length cap] 39)).alloc (.cells #[.int .i64 0, .int .i64 0, .slice none 0 0] 39)) (.int .i64 r) (.int .i64 c) (.slice a xs.length cap) 39
  have G0 : w.grownBy W none := by rw [hW]; exact gbt (World.grownBy_alloc _ _ _) (gbt (World.grownBy_alloc _ _ _) (World.grownBy_alloc _ _ _))
  have hs := h.kept G0
  have hz : W.heap.size = w.heap.size + 1 + 1 + 1 := by rw [hW]; simp
  have hmk : ∀ W' : World, W'.heap.size = w.heap.size + 1 + 1 + 1 → (W'.alloc (.cells #[] 3)).ownsRow (w.heap.size + 1 + 1 + 1) 3 1 (.slice (some ⟨w.heap.size + 1 + 1 + 1, 0, none⟩) 0 0) 0 [] := fun W' e => by
    rw [← e]; exact World.ownsRow_made W' #[] 0 (Nat.le_refl _) (by decide) rfl
  have ho := hmk W hz
  replace hs := hs.alloc (.cells #[] 3)
  replace G0 := gbt G0 (World.grownBy_alloc W (.cells #[] 3) none)
  replace T2 := T2.alloc (.cells #[] 3)
  replace T3 := T3.alloc (.cells #[] 3)
  rw [hW] at T2 T3 G0 hs ho
  clear hW h T1 hz
  cases a with
  | none =>
    obtain ⟨rfl, rfl⟩ := sees_nil hs
    go_enter Try.func76, Try.ntmps76
    go_wp2
    exact bodyPost_ret (v := .agg #[.int .i64 r, .int .i64 c, .slice (some ⟨w.heap.size + 1 + 1 + 1, 0, none⟩) 0 0]) (by simp [results, Try.results76, go_sem]) rfl ⟨_, _, rfl, own_base (hmk _ (by simp)) (by omega), by repeat (first | exact World.grownBy.refl _ _ | refine gbt ?_ (World.grownBy_alloc _ _ _))⟩
  | some ad =>
    have hnews := sees_news hs
    have HM := Lib.hid hmk
    have HN := Lib.hid hnews
    clear hmk hnews hs
    go_enter Try.func76, Try.ntmps76
    go_wp2_with (at_builtin; refine wpList_append_own _ rfl _ _ 34 rfl (w.heap.size + 1 + 1 + 1) 3 i0 (.int .i64 0) 1 8 Try.underlying34 hi hz0 hz1 hz2 rfl (by decide) _ _ _ rfl ho ad xs.length cap (ints xs) rfl ?c0 HN.out ?c2 ?c3 ?c4 ?c5 ?_)
    case c0 => simp
    case c2 => intro u hu; simp at hu; obtain ⟨x, _, rfl⟩ := hu; rfl
    case c3 => unfold maxLen; omega
    case c4 => omega
    case c5 => simp
    intro v' w1 ho1 hg1 _
    (try simp only [Nat.zero_add, List.nil_append] at ho1)
    obtain ⟨a', cap', rfl⟩ := own_slice ho1
    replace T2 := T2.kept hg1 (by simp [Value.ownBlock])
    replace T3 := T3.kept hg1 (by simp [Value.ownBlock])
    have G1 : w.grownBy w1 none := ⟨hg1.os.trans G0.os, hg1.tape.trans G0.tape, hg1.output.trans G0.output, Nat.le_trans G0.size hg1.size, fun k hk hne => (hg1.block k (Nat.lt_of_lt_of_le hk G0.size) (by simp [Value.ownBlock]; omega)).trans (G0.block k hk hne)⟩
    have hz1 : w.heap.size + 1 + 1 < w1.heap.size := T3.lt
    obtain ⟨p0, p1, p2, p3, p4, p5⟩ := T2
    obtain ⟨q0, q1, q2, q3, q4, q5⟩ := T3
    clear hg1 G0 ho HN HM
    go_wp2
    exact bodyPost_ret (v := .agg #[.int .i64 r, .int .i64 c, .slice a' xs.length cap']) (by simp [results, Try.results76, go_sem, p0, p1, p2]) rfl ⟨_, _, rfl, own_base (b := w.heap.size + 1 + 1 + 1) (by repeat (first | exact ho1 | (refine ownsRow_setCell_below ?_ (by simp; done) _) | (refine ownsRow_setCell_below ?_ (by simp; omega) _))) (by omega), by repeat (first | exact G1 | (refine gb_setNew ?_ (by omega) _ _))⟩
end Go.Proofs.Ythcochdkclmejaa
