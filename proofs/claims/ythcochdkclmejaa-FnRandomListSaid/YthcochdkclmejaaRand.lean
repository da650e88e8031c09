/- The contracts of the reference's random lists: l4List returns a new list of the ring numbers behind a seed and the last seed; NextRandom of the reference. Conditions: the seed is at most 2147483646 and not negative, at most 4096 numbers. -/
import Derived.Test.YthcochdkclmejaaShared
namespace Go.Proofs.Ythcochdkclmejaa
open Go Go.RowKit

theorem info_int : (Try.prog.info? 3).map (fun i => (i.zero, i.size, i.bytes)) = some (some (.int .i64 0), 1, 8) := by kernel_rfl

abbrev ints (l : List Int) : List Value := l.map (Value.int .i64)

theorem l4_round {B k : Nat} {s : Int} {w wr w1 : World} {v v' : Value} {o : Obj} (hB : B ≤ wr.heap.size) (hown : wr.ownsRow B 3 1 v k (ints (rlist s k))) (hnx : Below B w wr)
    (hown' : w1.ownsRow B 3 1 v' (k + 1) (ints (rlist s k) ++ [.int .i64 (rseed s (k + 1) / 8 % 4096)])) (hgrow : (wr.alloc o).grownBy w1 v.ownBlock) :
    w1.ownsRow B 3 1 v' (k + 1) (ints (rlist s (k + 1))) ∧ Below B w w1 := by
  refine ⟨by rw [rlist_succ]; simpa [ints] using hown', (hnx.alloc (by omega) o).grown hgrow (by simp; omega) (fun j hj => (hown.lt j hj).1)⟩

set_option maxHeartbeats 400000 in
theorem l4List (s : Int) (n : Nat) (hs : 0 ≤ s ∧ s ≤ 2147483646) (hn : n ≤ 4096) (w : World) :
    Calls Try.prog 67 #[.int .i64 s, .int .i64 n] w fun e w' => ∃ v, e = .returned (.tuple #[v, .int .i64 (rseed s n)]) ∧ w'.ownsRow w.heap.size 3 1 v n (ints (rlist s n)) ∧ Below w.heap.size w w' := by
  obtain ⟨i0, hi, hz0, hz1, hz2⟩ := info_parts info_int
  go_enter Try.func67, Try.ntmps67
  go_wp2
  go_loopw [0, 6, 7] (fun a v i wr => ∃ k : Nat, k ≤ n ∧ i = .int .i64 k ∧ a = .int .i64 (rseed s k) ∧ wr.ownsRow w.heap.size 3 1 v k (ints (rlist s k)) ∧ Below w.heap.size w wr)
    (fun _ _ i _ => n - (intOf i).toNat)
  case atStart => exact ⟨0, Nat.zero_le _, rfl, rfl, World.ownsRow_made w #[] 0 (Nat.le_refl _) (by decide) rfl, (Below.refl _ _).alloc (Nat.le_refl _) _⟩
  case round =>
    obtain ⟨k, hk, rfl, rfl, hown, hnx⟩ := hrel
    have hb := rseed_bd s hs k
    have hq := nxt_bd (rseed s k)
    go_wp2_with (first | (go_at_call 80; refine (l4Next _ hb _).mono ?_; rintro e w' ⟨rfl, rfl⟩) | (at_builtin; refine wpList_append_own _ rfl _ _ 34 rfl w.heap.size 3 i0 (.int .i64 0) 1 8 Try.underlying34 hi hz0 hz1 hz2 rfl (by decide) _ _ _ rfl (hown.alloc _) ⟨wr.heap.size, 0, none⟩ 1 1 [.int .i64 (nxt (rseed s k) / 8 % 4096)] rfl rfl ?c1 ?c2 ?c3 ?c4 ?c5 ?_))
    case c1 =>
      intro j u hj
      match j, hj with
      | 0, hj => simp at hj; subst hj; simp [Addr.add]
    case c2 => intro u hu; simp at hu; subst hu; rfl
    case c3 => unfold maxLen; omega
    case c4 => omega
    case c5 => have := hnx.size; simp; omega
    · intro v' w1 hown' hgrow _
      have hlt : k < n := by assumption
      have R := l4_round hnx.size hown hnx hown' hgrow
      clear hown' hgrow hown hnx
      go_wp2
      go_roundw
      case rel => exact ⟨k + 1, by omega, by go_num, rfl, R.1, R.2⟩
      case measure => simp [intOf]; omega
    · have hge : ¬ k < n := by assumption
      obtain rfl : k = n := by omega
      go_ret2
      exact ⟨_, rfl, hown, hnx⟩
end Go.Proofs.Ythcochdkclmejaa
