/- The contract of the closure that randomStream hands back: it goes through the ring numbers behind a seed, whose cell it writes itself, till a round says 'no more'. Conditions: none. -/
import Derived.Test.YthcochdkclmejaaRand
import Derived.RangeFuncBox
import Derived.RangeFuncLeaves
import Derived.RangeFuncCalls
import Derived.Shelf.Abstract
import Derived.WalkKit
import Derived.OwnWalkIn
import Derived.TacticsInMore
import Derived.LoopNIn
import Derived.LoopIn
import Derived.Maps.AppendAt
namespace Go.Proofs.Ythcochdkclmejaa
open Go Go.RowKit Go.Shelf

attribute [local go_sem] Oper.semAt_some

set_option maxRecDepth 100000 in
set_option maxHeartbeats 1000000 in
theorem stream_in (n : Nat) (l S m : Nat) (s : Int) (hs : sv s = true) (J J' : Nat → World → Prop) (Jx : World → Prop) (meas : World → Nat)
    (hY : ∀ k W, k ≤ m → J k W → YieldAt Fence.wide (n - 1) Try.prog l #[.int .i64 (rseed s (k + 1) / 8 % 4096), .int .i64 (rseed s (k + 1))] W fun e W' =>
      (e = .returned (.bool true) ∧ k < m ∧ J' k W') ∨ (e = .returned (.bool false) ∧ Jx W'))
    (hc : ∀ k W, J k W → W.cell? ⟨S, 0, none⟩ = some (.int .i64 (rseed s k)))
    (hm : ∀ k W, J k W → meas W = m + 1 - k)
    (hset : ∀ k W, k < m → J' k W → (∃ v, W.cell? ⟨S, 0, none⟩ = some v) ∧ W.frozen? ⟨S, 0, none⟩ = false ∧ J (k + 1) (W.setCell ⟨S, 0, none⟩ (.int .i64 (rseed s (k + 1)))))
    (W : World) (h0 : J 0 W) :
    CallsIn Fence.wide n Try.prog 81 #[.func (.yield l) #[] #[], .pointer (some ⟨S, 0, none⟩)] W fun e W' => (∃ v, e = .returned v) ∧ Jx W' := by
  refine callsIn_of_wp Try.func81 rfl trivial ?_ rfl
  simp only [Try.ntmps81, List.size_toArray, List.length_cons, List.length_nil, Nat.reduceAdd, Nat.reduceSub, Array.replicate_succ, Array.replicate_zero, List.push_toArray, List.append_toArray, List.nil_append, List.cons_append]
  gi_wp2
  gi_loopw [] (fun wr => ∃ k, k ≤ m ∧ J k wr) (fun wr => meas wr)
  case atStart => exact ⟨0, Nat.zero_le _, h0⟩
  case round =>
    obtain ⟨k, hk, hJ⟩ := hrel
    have hcell := hc k wr hJ
    have hmeas := hm k wr hJ
    obtain ⟨fn, tmps, assign, body, hy, hR⟩ := hY k wr hk hJ
    have hsk := rseed_sv s hs k
    have e1 : rnum (rseed s k) = rseed s (k + 1) / 8 % 4096 := by simp [rnum, hsk, rseed]
    have e2 : rnx (rseed s k) = rseed s (k + 1) := by simp [rnx, hsk, rseed]
    have C1 := nextRandom (rseed s k) wr
    rw [e1, e2] at C1
    replace C1 := callsIn_wide (n := n - 1) |>.2 C1
    replace hset := fun W h1 h2 => hset k W h1 h2
    generalize rseed s (k + 1) = z at *
    generalize rseed s k = y at *
    clear e1 e2 hsk
    gi_wp2_with (refine ⟨trivial, (fun h => by cases h), ?_⟩; gi_at_call 82; refine C1.mono ?_; rintro e w' ⟨rfl, rfl⟩)
    refine ⟨(fun h => by cases h), hR.mono ?_⟩
    rintro e W3 (⟨rfl, hlt, hJ3⟩ | ⟨rfl, hx⟩)
    · obtain ⟨⟨v, hv⟩, hf, hJ4⟩ := hset W3 hlt hJ3
      gi_wp2
      go_roundw
      case rel => exact ⟨k + 1, by omega, hJ4⟩
      case measure => rw [hm (k + 1) _ hJ4, hmeas]; omega
    · gi_wp2
      refine bodyPost_ret (results_none rfl _ _ _) rfl ?_
      exact ⟨⟨_, rfl⟩, hx⟩
end Go.Proofs.Ythcochdkclmejaa
