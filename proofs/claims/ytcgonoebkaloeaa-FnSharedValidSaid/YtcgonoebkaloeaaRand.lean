/- The contracts of the reference's random lists: l4List returns a new list of the ring numbers behind a seed and the last seed; NextRandom of the reference. Conditions: the seed is at most 2147483646 and not negative, at most 4096 numbers. -/
import Derived.Test.YtcgonoebkaloeaaShared
namespace Go.Proofs.Ytcgonoebkaloeaa
open Go Go.RowKit

theorem info_int : (Try.prog.info? 3).map (fun i => (i.zero, i.size, i.bytes)) = some (some (.int .i64 0), 1, 8) := by kernel_rfl

abbrev ints (l : List Int) : List Value := l.map (Value.int .i64)

theorem l4_round {B k : Nat} {s : Int} {w wr w1 : World} {v v' : Value} {o : Obj} (hB : B ≤ wr.heap.size) (hown : wr.ownsRow B 3 1 v k (ints (rlist s k))) (hnx : Below B w wr)
    (hown' : w1.ownsRow B 3 1 v' (k + 1) (ints (rlist s k) ++ [.int .i64 (rseed s (k + 1) / 8 % 4096)])) (hgrow : (wr.alloc o).grownBy w1 v.ownBlock) :
    w1.ownsRow B 3 1 v' (k + 1) (ints (rlist s (k + 1))) ∧ Below B w w1 := by
  refine ⟨by rw [rlist_succ]; simpa [ints] using hown', (hnx.alloc (by omega) o).grown hgrow (by simp; omega) (fun j hj => (hown.lt j hj).1)⟩

set_option maxHeartbeats 400000 in
theorem l4List (s : Int) (n : Nat) (hs : 0 ≤ s ∧ s ≤ 2147483646) (hn : n ≤ 4096) (w : World) :
    Calls Try.prog 62 #[.int .i64 s, .int .i64 n] w fun e w' => ∃ v, e = .returned (.tuple #[v, .int .i64 (rseed s n)]) ∧ w'.ownsRow w.heap.size 3 1 v n (ints (rlist s n)) ∧ Below w.heap.size w w' := by
  obtain ⟨i0, hi, hz0, hz1, hz2⟩ := info_parts info_int
  go_enter Try.func62, Try.ntmps62
  go_wp2
  go_loopw [0, 6, 7] (fun a v i wr => ∃ k : Nat, k ≤ n ∧ i = .int .i64 k ∧ a = .int .i64 (rseed s k) ∧ wr.ownsRow w.heap.size 3 1 v k (ints (rlist s k)) ∧ Below w.heap.size w wr)
    (fun _ _ i _ => n - (intOf i).toNat)
  case atStart => exact ⟨0, Nat.zero_le _, rfl, rfl, World.ownsRow_made w #[] 0 (Nat.le_refl _) (by decide) rfl, (Below.refl _ _).alloc (Nat.le_refl _) _⟩
  case round =>
    obtain ⟨k, hk, rfl, rfl, hown, hnx⟩ := hrel
    have hb := rseed_bd s hs k
    have hq := nxt_bd (rseed s k)
    go_wp2_with (first | (go_at_call 64; refine (l4Next _ hb _).mono ?_; rintro e w' ⟨rfl, rfl⟩) | (at_builtin; refine wpList_append_own _ rfl _ _ 47 rfl w.heap.size 3 i0 (.int .i64 0) 1 8 Try.underlying47 hi hz0 hz1 hz2 rfl (by decide) _ _ _ rfl (hown.alloc _) ⟨wr.heap.size, 0, none⟩ 1 1 [.int .i64 (nxt (rseed s k) / 8 % 4096)] rfl rfl ?c1 ?c2 ?c3 ?c4 ?c5 ?_))
    case c1 =>
      intro j u hj
      match j, hj with
      | 0, hj => simp at hj; subst hj; simp [Addr.add]
    case c2 => intro u hu; simp at hu; subst hu; rfl
    case c3 => unfold maxLen; omega
    case c4 => omega
    case c5 => have := hnx.size; simp; omega
    · intro v' w1 hown' hgrow _
      have hlt : k < n := by assumption
      have R := l4_round hnx.size hown hnx hown' hgrow
      clear hown' hgrow hown hnx
      go_wp2
      go_roundw
      case rel => exact ⟨k + 1, by omega, by go_num, rfl, R.1, R.2⟩
      case measure => simp [intOf]; omega
    · have hge : ¬ k < n := by assumption
      obtain rfl : k = n := by omega
      go_ret2
      exact ⟨_, rfl, hown, hnx⟩
theorem own_first {w : World} {B : Nat} {v : Value} {x : Int} (h : w.ownsRow B 3 1 v 1 [.int .i64 x]) : ∃ g cap, v = .slice (some ⟨g, 0, none⟩) 1 cap ∧ w.cell? ⟨g, 0, none⟩ = some (.int .i64 x) := by
  rcases h.2 with ⟨_, h0⟩ | ⟨g, cap, cur, hv, _⟩
  · cases h0
  · subst hv
    exact ⟨g, cap, rfl, by have := h.cellAt 0 (by decide); simpa using this⟩
theorem nextRandom_s (s : Int) (w : World) : Calls Try.prog 40 #[.int .i64 s] w fun e w' => e = .returned (.tuple #[.int .i64 (rnum s), .int .i64 (rnx s)]) ∧ Below w.heap.size w w' := by
  by_cases h : sv s = true
  · have hb := sv_iff.1 h
    have e1 : rnum s = nxt s / 8 % 4096 := by simp [rnum, h]
    have e2 : rnx s = nxt s := by simp [rnx, h]
    rw [e1, e2]
    clear e1 e2
    go_enter Try.func40, Try.ntmps40
    go_wp2_with (go_at_call 58; refine (l1In _ _ _ _).mono ?_; rintro e w' ⟨rfl, rfl⟩)
    refine (l4List s 1 ⟨by omega, by omega⟩ (by decide) w).mono ?_
    rintro e w1 ⟨v, rfl, hown, hbel⟩
    obtain ⟨g, cap, hv, hcell⟩ := own_first (x := nxt s / 8 % 4096) hown
    rw [hv]
    clear hown hv
    go_wp2
    go_ret2
    exact ⟨rfl, hbel⟩
  · have h' : sv s = false := by simpa using h
    have h2 := sv_no.1 h'
    have hd : decide (1 ≤ s ∧ s ≤ 2147483646) = false := h'
    go_enter Try.func40, Try.ntmps40
    go_wp2_with (go_at_call 58; refine (l1In _ _ _ _).mono ?_; rintro e w' ⟨rfl, rfl⟩)
    go_ret2
    exact ⟨ret_ints (by simp [h', rnum]) (by simp [h', rnx]), Below.refl _ _⟩
end Go.Proofs.Ytcgonoebkaloeaa
