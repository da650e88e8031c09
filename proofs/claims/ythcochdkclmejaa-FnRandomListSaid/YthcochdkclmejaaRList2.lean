/- The contract of the program's RandomList for valid arguments: a new list of the ring numbers behind a seed and the last seed. Conditions: none. -/
import Derived.Test.YthcochdkclmejaaRList
import Derived.Test.YthcochdkclmejaaMat
namespace Go.Proofs.Ythcochdkclmejaa
open Go Go.RowKit Go.Shelf

attribute [local go_sem] Oper.semAt_some

/-- The length of the list that is collected, read off the world. -/
def lenAt (L : Nat) (W : World) : Nat := match W.cell? ⟨L, 0, none⟩ with | some (.slice _ k _) => k | _ => 0

theorem heap_after {W w1 : World} {tmp o : Obj} {r l L : Nat} {v v' : Value} (hl : W.heap[l]? = some o) (hg : (W.alloc tmp).grownBy w1 (some r)) (h1 : l ≠ r) (h2 : l ≠ L) (h3 : l ≠ L + 1) :
    ((w1.setCell ⟨L, 0, none⟩ v).setCell ⟨L + 1, 0, none⟩ v').heap[l]? = some o := by
  have hlt : l < W.heap.size := (Array.getElem?_eq_some_iff.1 hl).1
  rw [Below.heap_setCell _ _ _ l h3, Below.heap_setCell _ _ _ l h2, hg.block l (by simp; omega) (by simp [h1]), Below.heap_alloc _ _ _ (by omega)]
  exact hl

theorem randomStream_in (n : Nat) (s : Int) (w : World) :
    CallsIn Fence.wide n Try.prog 69 #[.int .i64 s] w fun e w' => e = .returned (.func (.func 81) #[] #[.pointer (some ⟨w.heap.size, 0, none⟩)]) ∧ w' = w.alloc (.cells #[.int .i64 s] 3) := by
  refine callsIn_of_wp Try.func69 rfl trivial ?_ rfl
  simp only [Try.ntmps69, List.size_toArray, List.length_cons, List.length_nil, Nat.reduceAdd, Nat.reduceSub, Array.replicate_succ, Array.replicate_zero, List.push_toArray, List.append_toArray, List.nil_append, List.cons_append]
  gi_wp2
  go_ret
  exact ⟨rfl, rfl⟩

set_option maxRecDepth 100000 in
set_option maxHeartbeats 3200000 in
theorem randomList_yes (s : Int) (n : Nat) (hs : sv s = true) (hn : n ≤ 4096) (w : World) :
    Calls Try.prog 30 #[.int .i64 s, .int .i64 n] w fun e w' => ∃ v, e = .returned (.tuple #[v, .int .i64 (rseed s n)]) ∧ w'.ownsRow w.heap.size 3 1 v n (ints (rlist s n)) ∧ Below w.heap.size w w' := by
  obtain ⟨i0, hi, hz0, hz1, hz2⟩ := info_parts info_int
  have CS : ∀ u, Calls Try.prog 68 #[.int .i64 s] u fun e w' => e = .returned (.bool true) ∧ u = w' := by intro u; have h := seedValid s u; rw [hs] at h; exact h
  have n0 : ¬ (n : Int) < 0 := by omega
  have n1 : ¬ (4096 : Int) < (n : Int) := by omega
  have bM := Boxed.new w 3 (.int .i64 n)
  have hB0 : Below w.heap.size w (w.alloc (.cells #[.int .i64 n] 3)) := (Below.refl _ w).alloc (Nat.le_refl _) _
  refine (callsIn_wide (n := 9)).1 ?_
  refine callsIn_of_wp_marks Try.func30 rfl trivial ?_ rfl
  simp only [Try.ntmps30, List.size_toArray, List.length_cons, List.length_nil, Nat.reduceAdd, Nat.reduceSub, Array.replicate_succ, Array.replicate_zero, List.push_toArray, List.append_toArray, List.nil_append, List.cons_append]
  gi_wp2_with (first
    | (refine ⟨trivial, ?_⟩; gi_at_call 68; refine (callsIn_wide.2 (CS _)).mono ?_; rintro e w' ⟨rfl, rfl⟩)
    | (refine ⟨trivial, ?_⟩; gi_at_call 69; refine (randomStream_in _ _ _).mono ?_; rintro e w' ⟨rfl, rfl⟩)
    | (gi_at_make; refine wpListIn_make_own _ rfl _ _ 34 rfl (w.heap.size + 1) 3 i0 (.int .i64 0) 1 Try.underlying34 hi hz0 hz1 .i64 .i64 _ n rfl rfl rfl (by rw [hz2]; omega) (by unfold maxLen; omega) (by simp) ?_; intro w1 ho hg; simp only [World.size_alloc] at ho ⊢))
  obtain ⟨W0, hW0⟩ : ∃ W0, W0 = ((w1.alloc (.cells #[.slice (some ⟨w.heap.size + 1, 0, none⟩) 0 n] 34)).alloc (.cells #[.int .i64 s] 3)).alloc (.cells #[.int .i64 s] 3) := ⟨_, rfl⟩
  have hI0 : RL w w1.heap.size n s 0 (rseed s 0) W0 := by
    rw [hW0]
    have hB1 : Below w.heap.size w w1 := hB0.grown hg (by simp) (fun j e => by cases e)
    have hz := hB1.size
    refine ⟨((Boxed.new w1 _ _).alloc _).alloc _, ((ho.alloc _).alloc _).alloc _, (((bM.kept hg (by simp)).alloc _).alloc _).alloc _, ?_, ?_, ((hB1.alloc hz _).alloc (by simp; omega) _).alloc (by simp; omega) _, (ho.lt _ rfl).2⟩
    · have h1 := Boxed.new (w1.alloc (.cells #[.slice (some ⟨w.heap.size + 1, 0, none⟩) 0 n] 34)) 3 (.int .i64 s)
      rw [World.size_alloc] at h1
      exact h1.alloc _
    · have h1 := Boxed.new ((w1.alloc (.cells #[.slice (some ⟨w.heap.size + 1, 0, none⟩) 0 n] 34)).alloc (.cells #[.int .i64 s] 3)) 3 (.int .i64 s)
      rw [World.size_alloc, World.size_alloc] at h1
      exact h1
  rw [← hW0]
  clear hW0
  generalize hLL : w1.heap.size = L at *
  clear hLL ho hg bM hB0 w1
  refine range_wide rfl (enters_of Try.func81 (by kernel_rfl) rfl) ?_
  intro fn rec hrec
  have hz0 : w.heap.size ≤ W0.heap.size := hI0.below.size
  have hR0 : ((W0.alloc (.deferred (some []))).alloc (.loop (rec .ready none))).heap[W0.heap.size + 1]? = some (.loop (rec .ready none)) := by
    have := World.alloc_heap_new (W0.alloc (.deferred (some []))) (.loop (rec .ready none)); rwa [World.size_alloc] at this
  have hD0 : ((W0.alloc (.deferred (some []))).alloc (.loop (rec .ready none))).heap[W0.heap.size]? = some (.deferred (some [])) :=
    (Below.heap_alloc _ _ _ (by simp)).trans (World.alloc_heap_new W0 _)
  have hIa : RL w L n s 0 (rseed s 0) ((W0.alloc (.deferred (some []))).alloc (.loop (rec .ready none))) :=
    ⟨(hI0.list.alloc _).alloc _, (hI0.row.alloc _).alloc _, (hI0.many.alloc _).alloc _, (hI0.last.alloc _).alloc _, (hI0.seed.alloc _).alloc _, (hI0.below.alloc hz0 _).alloc (by simp; omega) _, hI0.b2⟩
  refine (stream_in _ (W0.heap.size + 1) (L + 1 + 1) n s hs
    (fun k W => RL w L n s k (rseed s k) W ∧ W.heap[W0.heap.size + 1]? = some (.loop (rec .ready none)) ∧ W.heap[W0.heap.size]? = some (.deferred (some [])))
    (fun k W => RL w L n s (k + 1) (rseed s k) W ∧ W.heap[W0.heap.size + 1]? = some (.loop (rec .ready none)) ∧ W.heap[W0.heap.size]? = some (.deferred (some [])))
    (fun W => RL w L n s n (rseed s n) W ∧ W.heap[W0.heap.size + 1]? = some (.loop (rec .done (some (.exit 0)))) ∧ W.heap[W0.heap.size]? = some (.deferred (some [])))
    (fun W => n + 1 - lenAt L W) ?hY (fun k W h => h.1.seed.cell) ?hm ?hset _ ⟨hIa, hR0, hD0⟩).mono ?_
  case hm => intro k W h; simp [lenAt, h.1.list.cell]
  case hset =>
    intro k W _ h
    exact ⟨⟨_, h.1.seed.cell⟩, h.1.seed.frozen, h.1.setSeed _, (KeepsOthers.setCell W _ _).same _ _ h.2.1 rfl, (KeepsOthers.setCell W _ _).same _ _ h.2.2 rfl⟩
  case hY =>
    rintro k W hk ⟨hI, hL, hD⟩
    have hlt : W0.heap.size + 1 < W.heap.size := (Array.getElem?_eq_some_iff.1 hL).1
    have hy := run_yield (P := Try.prog) (args := #[.int .i64 (rseed s (k + 1) / 8 % 4096), .int .i64 (rseed s (k + 1))]) hL (by rw [hrec]; rfl)
    rw [hrec] at hy
    refine ⟨_, _, _, _, hy, roundIn_of_wpIn trivial ?_⟩
    have bL : L + 1 < W0.heap.size := hI0.last.lt
    have bw := hI0.b2
    simp
    gi_wp2
    refine ⟨_, run_beginRound hL (by rw [hrec]), ?_⟩
    have hI1 := hI.putObj (W0.heap.size + 1) _ (.loop { rec .ready none with state := .busy }) hL rfl (by omega)
    have hL1 : (W.putObj (W0.heap.size + 1) (.loop { rec .ready none with state := .busy })).heap[W0.heap.size + 1]? = some (.loop { rec .ready none with state := .busy }) := World.putObj_heap_same hlt
    have hD1 : (W.putObj (W0.heap.size + 1) (.loop { rec .ready none with state := .busy })).heap[W0.heap.size]? = some (.deferred (some [])) := (World.putObj_heap_other (by omega)).trans hD
    generalize W.putObj (W0.heap.size + 1) (.loop { rec .ready none with state := .busy }) = Wb at *
    have c1 := hI1.list.cell
    have c2 := hI1.many.cell
    by_cases hkn : k = n
    · subst hkn
      have hbb : ((k : Int) == (k : Int)) = true := by simp
      gi_wp2
      subst hrec
      have hlt1 := (Array.getElem?_eq_some_iff.1 hL1).1
      exact ⟨_, _, run_endRound (some (Code.exit 0)) hL1, rfl, hI1.putObj _ _ _ hL1 rfl (by omega), World.putObj_heap_same hlt1, (World.putObj_heap_other (by omega)).trans hD1⟩
    · have hkl : k < n := by omega
      have hbb : ((k : Int) == (n : Int)) = false := by simp; omega
      have hrow := hI1.row
      gi_wp2_with (gi_at_builtin; refine wpListIn_append_fits _ rfl _ _ 34 rfl (w.heap.size + 1) 3 i0 1 Try.underlying34 hi hz1 (w.heap.size + 1) k n _ rfl (hrow.alloc _) ⟨Wb.heap.size, 0, none⟩ 1 1 [.int .i64 (rseed s (k + 1) / 8 % 4096)] rfl rfl (cell_one_new _ _ _) (by simp [Value.oneCell']) (by omega) ?_; intro w3 ho3 hg3; obtain ⟨bl, ba, hR3⟩ := hI1.round ho3 hg3; have hL3 := heap_after (L := L) (v := .slice (some ⟨w.heap.size + 1, 0, none⟩) (k + 1) n) (v' := .int .i64 (rseed s (k + 1))) hL1 hg3 (by omega) (by omega) (by omega); have hD3 := heap_after (L := L) (v := .slice (some ⟨w.heap.size + 1, 0, none⟩) (k + 1) n) (v' := .int .i64 (rseed s (k + 1))) hD1 hg3 (by omega) (by omega) (by omega); have d1 := bl.cell; have d2 := bl.frozen; have d3 := ba.cell; have d4 := ba.frozen; clear bl ba hg3 ho3)
      subst hrec
      have hlt3 := (Array.getElem?_eq_some_iff.1 hL3).1
      exact ⟨_, _, run_endRound none hL3, .inl ⟨rfl, hR3.putObj _ _ _ hL3 rfl (by omega), World.putObj_heap_same hlt3, (World.putObj_heap_other (by omega)).trans hD3⟩⟩
  · rintro e W2 ⟨⟨v, rfl⟩, hI, hL, hD⟩
    have hend := run_endLoop (P := Try.prog) hL (by rw [hrec]; simp)
    have hltl : W0.heap.size + 1 < W2.heap.size := (Array.getElem?_eq_some_iff.1 hL).1
    have hI4 := hI.putObj (W0.heap.size + 1) _ (.loop { rec .done (some (.exit 0)) with state := .exhausted }) hL rfl (by omega)
    have hD4 : (W2.putObj (W0.heap.size + 1) (.loop { rec .done (some (.exit 0)) with state := .exhausted })).heap[W0.heap.size]? = some (.deferred (some [])) := (World.putObj_heap_other (by omega)).trans hD
    have hpe : (rec .done (some (.exit 0))).pending = some (.exit 0) := by rw [hrec]
    refine ⟨_, _, hend, ?_⟩
    generalize W2.putObj (W0.heap.size + 1) (.loop { rec .done (some (.exit 0)) with state := .exhausted }) = W4 at *
    rw [hpe]
    clear hpe hend hL hI hD hltl hrec rec hR0 hIa hD0
    have c1 := hI4.list.cell
    have c2 := hI4.last.cell
    gi_wp2
    gi_region
    all_goals gi_wp2
    have hD5 : W4.drew.heap[W0.heap.size]? = some (.deferred (some [])) := hD4
    refine ⟨by simp, .inl ⟨_, _, rfl, run_takeDeferred hD5, ?_⟩⟩
    refine ⟨.tuple #[.slice (some ⟨w.heap.size + 1, 0, none⟩) n n, .int .i64 (rseed s n)], by simp [results, Try.results30, go_sem], _, rfl, ?_, ?_⟩
    · exact ownsRow_putObj (own_base (own_kept hI4.row (gb_drew _ none)) (by omega)) _ hD5 rfl
    · exact hI4.below.drew.trans (belowK_b (w := w) (Nat.le_refl _) W4.drew W0.heap.size _ _ hz0 hD5 rfl rfl)
end Go.Proofs.Ythcochdkclmejaa
