/- The contracts of the reference's l2Number and FixedText: the decimal digits of a number, the text of a ring number; behind the call all that was there stands. Conditions: the number is from 0 to 100000. -/
import Derived.Test.YtmilkkingeeblaaDoorFxA
import Derived.Deep.LoopGhost
import Derived.Laws.BytesString
namespace Go.Proofs.YtmilkkingeeblaaDoor
open Go Go.RowKit

/-- The digits ahead of the last one. -/
def pre (m : Nat) : List UInt8 := if m < 10 then [] else Lib.decDigits (m / 10)
theorem pre_snoc (m : Nat) : pre m ++ [dgb (m % 10)] = Lib.decDigits m := by
  unfold pre
  by_cases h : m < 10
  · rw [if_pos h, dec_small h, Nat.mod_eq_of_lt h]; rfl
  · rw [if_neg h, dec_big h]
theorem dgb_nat (n : Nat) (h : n < 10) : ((dgb n).toNat : Int) = 48 + (n : Int) := by
  unfold dgb; rw [UInt8.toNat_ofNat']; omega

theorem cvt (n : Nat) (W : World) (T : TypeId) : (convert 25 9 (.slice (some ⟨W.heap.size, 0, none⟩) 1 1)).run Tryd.prog (W.alloc (.cells #[.int .u8 (48 + (n : Int) % 10)] T)) = .ok (.string (bs [dgb (n % 10)])) (W.alloc (.cells #[.int .u8 (48 + (n : Int) % 10)] T)) := by
  refine run_convert_bytes_back (P := Tryd.prog) _ 25 9 5 ⟨W.heap.size, 0, none⟩ 1 [dgb (n % 10)] Tryd.underlying25 Tryd.underlying5 Tryd.underlying9 (fun j hj => ?_)
  obtain rfl : j = 0 := by simpa using hj
  rw [Lib.add_plain]
  simp [dgb_nat (n % 10) (Nat.mod_lt _ (by decide))]

set_option maxHeartbeats 1000000 in
theorem l2Number (n : Nat) (hn : n < 1000) (w : World) : Calls Tryd.prog 27 #[.int .i64 n] w fun e w' => e = .returned (.string (bs (d3 n))) ∧ Below w.heap.size w w' := by
  have b1 : (n : Int) < 1000 := by omega
  have hc := cvt n
  have ln := d3_len n
  go_enter Tryd.func27, Tryd.ntmps27
  go_wp2_with fail
  clear hc
  go_loopw [0, 3] (fun a b wr => ∃ (m : Nat) (t : List UInt8), a = .int .i64 m ∧ b = .string (bs t) ∧ m < 1000 ∧ pre m ++ t = d3 n ∧ Below w.heap.size w wr) (fun a _ _ => (intOf a).toNat)
  case atStart => exact ⟨n, [dgb (n % 10)], rfl, rfl, hn, (pre_snoc n).trans (dec_d3 hn), (Below.refl _ _).alloc (Nat.le_refl _) _⟩
  case round =>
    obtain ⟨m, t, rfl, rfl, hm, hp, hb⟩ := hrel
    have lt : t.length ≤ 3 := by have := congrArg List.length hp; simp at this; omega
    have HP := Lib.hid hp
    clear hp
    have zb := hb.size
    by_cases h9 : 9 < m
    · have c9 : (9 : Int) < (m : Int) := by omega
      have hd : (m : Int) / 10 = ((m / 10 : Nat) : Int) := by omega
      obtain ⟨k, hk⟩ : ∃ k : Nat, m / 10 = k := ⟨_, rfl⟩
      rw [hk] at hd
      have hpre : Hid (pre m = pre k ++ [dgb (k % 10)]) := by
        rw [pre_snoc]; unfold pre; rw [if_neg (by omega), hk]; exact Lib.hid rfl
      have b2 : (k : Int) < 1000 := by omega
      have HK : Hid (k < m) := Lib.hid (by omega)
      have hc := cvt k
      have k1 : ∀ W, (Op.stringOp .add (bs [dgb (k % 10)]) (bs t)).run Tryd.prog W = .ok (.string (bs (dgb (k % 10) :: t))) W := fun W => bs_add [dgb (k % 10)] t (by simp) (by omega) W
      clear hk h9
      go_wp2_with fail
      go_roundw
      case rel => exact ⟨k, _, rfl, rfl, by omega, by rw [← HP.out, hpre.out]; simp, hb.alloc zb _⟩
      case measure => have := HK.out; simp [intOf]; omega
    · have c9 : ¬ (9 : Int) < (m : Int) := by omega
      have hpre : Hid (pre m = []) := by unfold pre; rw [if_pos (by omega)]; exact Lib.hid rfl
      clear h9
      go_wp2_with fail
      go_ret
      exact ⟨ret_str (by rw [bs_list, bs_list, ← HP.out, hpre.out]; rfl), hb⟩

/-- The reference's text, put together: the sign, the whole part, the point. -/
def lead (neg : Bool) (q : Nat) : List UInt8 := (if neg then [45] else []) ++ d3 q
theorem lead_len (neg : Bool) (q : Nat) : (lead neg q).length ≤ 4 := by have := d3_len q; unfold lead; cases neg <;> simp <;> omega
theorem digs_len (r k : Nat) : (digs r k).length = k := by simp [digs]
/-- How far the long division has to go. -/
def far (r : Nat) : Nat := if r % 16 = 0 then 0 else if r % 8 = 0 then 1 else if r % 4 = 0 then 2 else if r % 2 = 0 then 3 else 4
theorem far_less {r : Nat} (h : r < 16) (h0 : r ≠ 0) : far (10 * r % 16) < far r := by
  revert r; decide +kernel
/- FOUR WAYS -/
set_option maxHeartbeats 1000000 in
theorem fixedS_neg_whole (x : Int) (hv : rv x = true) (n q r : Nat) (hs : sgn x = -(n : Int)) (hn : n ≤ 4096) (hp : 1 ≤ n) (hq : n / 16 = q) (hr : n % 16 = r) (hz : r = 0) (w : World) :
    Calls Tryd.prog 11 #[.int .i64 x] w fun e w' => e = .returned (.string (bs (45 :: numT n))) ∧ Below w.heap.size w w' := by
  have HP := Lib.hid (numT_parts hq hr)
  have cS : ∀ w, Calls Tryd.prog 26 #[.int .i64 x] w fun e w' => e = .returned (.int .i64 (-(n : Int))) ∧ w = w' := fun w => by rw [← hs]; exact signedOf_s x w
  have b1 : (1 : Int) ≤ (n : Int) := by omega
  have b2 : (n : Int) ≤ 4096 := by omega
  have bq : q < 1000 := by omega
  have br : r < 16 := by omega
  have hd : (n : Int) / 16 = (q : Int) := by omega
  have hm : (n : Int) % 16 = (r : Int) := by omega
  have lq := d3_len q
  obtain ⟨S1, k1, l1⟩ : ∃ S : ByteArray, (∀ W, (Op.stringOp .add ⟨#[45]⟩ (bs (d3 q))).run Tryd.prog W = .ok (.string S) W) ∧ Hid (S = bs (45 :: d3 q)) := ⟨_, fun W => bs_add [45] (d3 q) (by simp) (by omega) W, rfl⟩
  obtain rfl : r = 0 := hz
  clear hs hn hq hr lq hp
  go_enter Tryd.func11, Tryd.ntmps11
  go_wp2_with (first | (go_at_call 12; refine (ringValid_s _ _).mono ?_; rintro e w' ⟨rfl, rfl⟩) | (go_at_call 26; refine (cS _).mono ?_; rintro e w' ⟨rfl, rfl⟩))
  refine (l2Number q bq _).mono ?_
  rintro e w1 ⟨rfl, hb1⟩
  go_wp2_with fail
  refine wp_loop_rounds 1 ?_; rw [rounds_succ]
  go_wp2_with fail
  go_ret
  exact ⟨ret_str (by rw [l1.out, bs_list, bs_list, HP.out]; simp), hb1⟩
set_option maxHeartbeats 1000000 in
theorem fixedS_neg_rest (x : Int) (hv : rv x = true) (n q r : Nat) (hs : sgn x = -(n : Int)) (hn : n ≤ 4096) (hp : 1 ≤ n) (hq : n / 16 = q) (hr : n % 16 = r) (hz : 0 < r) (w : World) :
    Calls Tryd.prog 11 #[.int .i64 x] w fun e w' => e = .returned (.string (bs (45 :: numT n))) ∧ Below w.heap.size w w' := by
  have HP := Lib.hid (numT_parts hq hr)
  have cS : ∀ w, Calls Tryd.prog 26 #[.int .i64 x] w fun e w' => e = .returned (.int .i64 (-(n : Int))) ∧ w = w' := fun w => by rw [← hs]; exact signedOf_s x w
  have b1 : (1 : Int) ≤ (n : Int) := by omega
  have b2 : (n : Int) ≤ 4096 := by omega
  have bq : q < 1000 := by omega
  have br : r < 16 := by omega
  have hd : (n : Int) / 16 = (q : Int) := by omega
  have hm : (n : Int) % 16 = (r : Int) := by omega
  have lq := d3_len q
  obtain ⟨S1, k1, l1⟩ : ∃ S : ByteArray, (∀ W, (Op.stringOp .add ⟨#[45]⟩ (bs (d3 q))).run Tryd.prog W = .ok (.string S) W) ∧ Hid (S = bs (45 :: d3 q)) := ⟨_, fun W => bs_add [45] (d3 q) (by simp) (by omega) W, rfl⟩
  obtain ⟨S2, k2, l2⟩ : ∃ S : ByteArray, (∀ W, (Op.stringOp .add S1 ⟨#[46]⟩).run Tryd.prog W = .ok (.string S) W) ∧ Hid (S = bs ((45 :: d3 q) ++ [46])) := ⟨bs ((45 :: d3 q) ++ [46]), fun W => by rw [l1.out]; exact bs_add (45 :: d3 q) [46] (by (try simp only [List.length_cons]); omega) (by simp) W, Lib.hid rfl⟩
  have z0 : (0 : Int) < (n : Int) % 16 := by omega
  have zB : decide ((0 : Int) < (n : Int) % 16) = true := by simpa using z0
  have HM := Lib.hid hm
  have HZ := Lib.hid hz
  have HL : Hid ((d3 q).length ≤ 3) := lq
  clear hs hn hq hr lq hz hm hp
  go_enter Tryd.func11, Tryd.ntmps11
  go_wp2_with (first | (go_at_call 12; refine (ringValid_s _ _).mono ?_; rintro e w' ⟨rfl, rfl⟩) | (go_at_call 26; refine (cS _).mono ?_; rintro e w' ⟨rfl, rfl⟩))
  refine (l2Number q bq _).mono ?_
  rintro e w1 ⟨rfl, hb1⟩
  go_wp2_with fail
  clear hd k1 k2 z0 zB
  go_loopw [4, 5] (fun b a wr => ∃ k : Nat, k ≤ 4 ∧ (∀ j < k, rest r j ≠ 0) ∧ a = .int .i64 (rest r k : Nat) ∧ b = .string (bs ((45 :: d3 q) ++ [46] ++ digs r k)) ∧ Below w.heap.size w wr) (fun _ a _ => far (intOf a).toNat)
  case atStart => exact ⟨0, by omega, fun j hj => absurd hj (by omega), by rw [rest_zero br, HM.out], by rw [l2.out]; simp [digs], hb1⟩
  case round =>
    obtain ⟨k, hk, hall, rfl, rfl, hb⟩ := hrel
    have hR := rest_lt r k
    by_cases h0 : rest r k = 0
    · have HE := Lib.hid (digs_end r br k (by omega) h0 hall)
      rw [h0, show ((0 : Nat) : Int) = 0 from rfl]
      clear h0 hall hR
      go_wp2_with fail
      go_ret
      have hz' : r ≠ 0 := by have := HZ.out; omega
      exact ⟨ret_str (by rw [bs_list, bs_list, HE.out, HP.out]; simp [hz']), hb⟩
    · have hk4 : k < 4 := by
        rcases Nat.lt_or_ge k 4 with h | h
        · exact h
        · obtain rfl : k = 4 := by omega
          exact absurd (rest_four r br) h0
      have HS := Lib.hid (rest_succ r k)
      have HF := Lib.hid (far_less hR h0)
      have HA := Lib.hid (fun (j : Nat) (hj : j < k + 1) => (show rest r j ≠ 0 from if e : j = k then e ▸ h0 else hall j (by omega)))
      have HD := Lib.hid (digs_succ r k)
      have HG := Lib.hid (digs_len r k)
      obtain ⟨R, eR⟩ : ∃ R, rest r k = R := ⟨_, rfl⟩
      rw [eR] at hR h0 HS HF HD ⊢
      obtain ⟨d, ed⟩ : ∃ d : Nat, 10 * R / 16 = d := ⟨_, rfl⟩
      obtain ⟨R', eR'⟩ : ∃ R' : Nat, 10 * R % 16 = R' := ⟨_, rfl⟩
      have bd : d < 10 := by omega
      have e1 : 10 * (R : Int) / 16 = (d : Int) := by omega
      have e2 : 10 * (R : Int) % 16 = (R' : Int) := by omega
      rw [ed] at HD
      rw [eR'] at HS HF
      have c0 : (0 : Int) < (R : Int) := by omega
      have c1 : (R : Int) < 16 := by omega
      have hd3 : d3 d = [dgb d] := by unfold d3; rw [if_pos bd]
      have k3 : ∀ W, (Op.stringOp .add (bs ((45 :: d3 q) ++ [46] ++ digs r k)) (bs [dgb d])).run Tryd.prog W = .ok (.string (bs ((45 :: d3 q) ++ [46] ++ digs r (k + 1)))) W := fun W => by rw [HD.out, ← List.append_assoc]; exact bs_add ((45 :: d3 q) ++ [46] ++ digs r k) [dgb d] (by have := HL.out; have := HG.out; simp; omega) (by simp) W
      obtain ⟨T0, eT0⟩ : ∃ T, bs ((45 :: d3 q) ++ [46] ++ digs r k) = T := ⟨_, rfl⟩
      obtain ⟨T1, eT1⟩ : ∃ T, bs ((45 :: d3 q) ++ [46] ++ digs r (k + 1)) = T := ⟨_, rfl⟩
      rw [eT0, eT1] at k3
      rw [eT0]
      have ET := Lib.hid eT1
      clear eT0 eT1 eR ed eR' h0 hR hall
      have cD : ∀ w, Calls Tryd.prog 27 #[.int .i64 d] w fun e w' => e = .returned (.string (bs [dgb d])) ∧ Below w.heap.size w w' := fun w => by rw [← hd3]; exact l2Number d (by omega) w
      clear hd3
      go_wp2_with fail
      refine (cD _).mono ?_
      rintro e w2 ⟨rfl, hb2⟩
      go_wp2_with fail
      go_roundw
      case rel => exact ⟨k + 1, by omega, HA.out, by rw [← HS.out, e2], by rw [ET.out], below_then hb hb2⟩
      case measure => have h := HF.out; simp [intOf, e2]; exact h
set_option maxHeartbeats 1000000 in
theorem fixedS_pos_whole (x : Int) (hv : rv x = true) (n q r : Nat) (hs : sgn x = (n : Int)) (hn : n ≤ 4096) (hq : n / 16 = q) (hr : n % 16 = r) (hz : r = 0) (w : World) :
    Calls Tryd.prog 11 #[.int .i64 x] w fun e w' => e = .returned (.string (bs (numT n))) ∧ Below w.heap.size w w' := by
  have HP := Lib.hid (numT_parts hq hr)
  have cS : ∀ w, Calls Tryd.prog 26 #[.int .i64 x] w fun e w' => e = .returned (.int .i64 ((n : Int))) ∧ w = w' := fun w => by rw [← hs]; exact signedOf_s x w
  have b1 : (0 : Int) ≤ (n : Int) := by omega
  have b2 : (n : Int) ≤ 4096 := by omega
  have bq : q < 1000 := by omega
  have br : r < 16 := by omega
  have hd : (n : Int) / 16 = (q : Int) := by omega
  have hm : (n : Int) % 16 = (r : Int) := by omega
  have lq := d3_len q
  obtain ⟨S1, k1, l1⟩ : ∃ S : ByteArray, (∀ W, (Op.stringOp .add ⟨#[]⟩ (bs (d3 q))).run Tryd.prog W = .ok (.string S) W) ∧ Hid (S = bs (d3 q)) := ⟨_, fun W => bs_add [] (d3 q) (by simp) (by omega) W, rfl⟩
  obtain rfl : r = 0 := hz
  clear hs hn hq hr lq
  go_enter Tryd.func11, Tryd.ntmps11
  go_wp2_with (first | (go_at_call 12; refine (ringValid_s _ _).mono ?_; rintro e w' ⟨rfl, rfl⟩) | (go_at_call 26; refine (cS _).mono ?_; rintro e w' ⟨rfl, rfl⟩))
  refine (l2Number q bq _).mono ?_
  rintro e w1 ⟨rfl, hb1⟩
  go_wp2_with fail
  refine wp_loop_rounds 1 ?_; rw [rounds_succ]
  go_wp2_with fail
  go_ret
  exact ⟨ret_str (by rw [l1.out, bs_list, bs_list, HP.out]; simp), hb1⟩
set_option maxHeartbeats 1000000 in
theorem fixedS_pos_rest (x : Int) (hv : rv x = true) (n q r : Nat) (hs : sgn x = (n : Int)) (hn : n ≤ 4096) (hq : n / 16 = q) (hr : n % 16 = r) (hz : 0 < r) (w : World) :
    Calls Tryd.prog 11 #[.int .i64 x] w fun e w' => e = .returned (.string (bs (numT n))) ∧ Below w.heap.size w w' := by
  have HP := Lib.hid (numT_parts hq hr)
  have cS : ∀ w, Calls Tryd.prog 26 #[.int .i64 x] w fun e w' => e = .returned (.int .i64 ((n : Int))) ∧ w = w' := fun w => by rw [← hs]; exact signedOf_s x w
  have b1 : (0 : Int) ≤ (n : Int) := by omega
  have b2 : (n : Int) ≤ 4096 := by omega
  have bq : q < 1000 := by omega
  have br : r < 16 := by omega
  have hd : (n : Int) / 16 = (q : Int) := by omega
  have hm : (n : Int) % 16 = (r : Int) := by omega
  have lq := d3_len q
  obtain ⟨S1, k1, l1⟩ : ∃ S : ByteArray, (∀ W, (Op.stringOp .add ⟨#[]⟩ (bs (d3 q))).run Tryd.prog W = .ok (.string S) W) ∧ Hid (S = bs (d3 q)) := ⟨_, fun W => bs_add [] (d3 q) (by simp) (by omega) W, rfl⟩
  obtain ⟨S2, k2, l2⟩ : ∃ S : ByteArray, (∀ W, (Op.stringOp .add S1 ⟨#[46]⟩).run Tryd.prog W = .ok (.string S) W) ∧ Hid (S = bs ((d3 q) ++ [46])) := ⟨bs ((d3 q) ++ [46]), fun W => by rw [l1.out]; exact bs_add (d3 q) [46] (by (try simp only [List.length_cons]); omega) (by simp) W, Lib.hid rfl⟩
  have z0 : (0 : Int) < (n : Int) % 16 := by omega
  have zB : decide ((0 : Int) < (n : Int) % 16) = true := by simpa using z0
  have HM := Lib.hid hm
  have HZ := Lib.hid hz
  have HL : Hid ((d3 q).length ≤ 3) := lq
  clear hs hn hq hr lq hz hm
  go_enter Tryd.func11, Tryd.ntmps11
  go_wp2_with (first | (go_at_call 12; refine (ringValid_s _ _).mono ?_; rintro e w' ⟨rfl, rfl⟩) | (go_at_call 26; refine (cS _).mono ?_; rintro e w' ⟨rfl, rfl⟩))
  refine (l2Number q bq _).mono ?_
  rintro e w1 ⟨rfl, hb1⟩
  go_wp2_with fail
  clear hd k1 k2 z0 zB
  go_loopw [4, 5] (fun b a wr => ∃ k : Nat, k ≤ 4 ∧ (∀ j < k, rest r j ≠ 0) ∧ a = .int .i64 (rest r k : Nat) ∧ b = .string (bs ((d3 q) ++ [46] ++ digs r k)) ∧ Below w.heap.size w wr) (fun _ a _ => far (intOf a).toNat)
  case atStart => exact ⟨0, by omega, fun j hj => absurd hj (by omega), by rw [rest_zero br, HM.out], by rw [l2.out]; simp [digs], hb1⟩
  case round =>
    obtain ⟨k, hk, hall, rfl, rfl, hb⟩ := hrel
    have hR := rest_lt r k
    by_cases h0 : rest r k = 0
    · have HE := Lib.hid (digs_end r br k (by omega) h0 hall)
      rw [h0, show ((0 : Nat) : Int) = 0 from rfl]
      clear h0 hall hR
      go_wp2_with fail
      go_ret
      have hz' : r ≠ 0 := by have := HZ.out; omega
      exact ⟨ret_str (by rw [bs_list, bs_list, HE.out, HP.out]; simp [hz']), hb⟩
    · have hk4 : k < 4 := by
        rcases Nat.lt_or_ge k 4 with h | h
        · exact h
        · obtain rfl : k = 4 := by omega
          exact absurd (rest_four r br) h0
      have HS := Lib.hid (rest_succ r k)
      have HF := Lib.hid (far_less hR h0)
      have HA := Lib.hid (fun (j : Nat) (hj : j < k + 1) => (show rest r j ≠ 0 from if e : j = k then e ▸ h0 else hall j (by omega)))
      have HD := Lib.hid (digs_succ r k)
      have HG := Lib.hid (digs_len r k)
      obtain ⟨R, eR⟩ : ∃ R, rest r k = R := ⟨_, rfl⟩
      rw [eR] at hR h0 HS HF HD ⊢
      obtain ⟨d, ed⟩ : ∃ d : Nat, 10 * R / 16 = d := ⟨_, rfl⟩
      obtain ⟨R', eR'⟩ : ∃ R' : Nat, 10 * R % 16 = R' := ⟨_, rfl⟩
      have bd : d < 10 := by omega
      have e1 : 10 * (R : Int) / 16 = (d : Int) := by omega
      have e2 : 10 * (R : Int) % 16 = (R' : Int) := by omega
      rw [ed] at HD
      rw [eR'] at HS HF
      have c0 : (0 : Int) < (R : Int) := by omega
      have c1 : (R : Int) < 16 := by omega
      have hd3 : d3 d = [dgb d] := by unfold d3; rw [if_pos bd]
      have k3 : ∀ W, (Op.stringOp .add (bs ((d3 q) ++ [46] ++ digs r k)) (bs [dgb d])).run Tryd.prog W = .ok (.string (bs ((d3 q) ++ [46] ++ digs r (k + 1)))) W := fun W => by rw [HD.out, ← List.append_assoc]; exact bs_add ((d3 q) ++ [46] ++ digs r k) [dgb d] (by have := HL.out; have := HG.out; simp; omega) (by simp) W
      obtain ⟨T0, eT0⟩ : ∃ T, bs ((d3 q) ++ [46] ++ digs r k) = T := ⟨_, rfl⟩
      obtain ⟨T1, eT1⟩ : ∃ T, bs ((d3 q) ++ [46] ++ digs r (k + 1)) = T := ⟨_, rfl⟩
      rw [eT0, eT1] at k3
      rw [eT0]
      have ET := Lib.hid eT1
      clear eT0 eT1 eR ed eR' h0 hR hall
      have cD : ∀ w, Calls Tryd.prog 27 #[.int .i64 d] w fun e w' => e = .returned (.string (bs [dgb d])) ∧ Below w.heap.size w w' := fun w => by rw [← hd3]; exact l2Number d (by omega) w
      clear hd3
      go_wp2_with fail
      refine (cD _).mono ?_
      rintro e w2 ⟨rfl, hb2⟩
      go_wp2_with fail
      go_roundw
      case rel => exact ⟨k + 1, by omega, HA.out, by rw [← HS.out, e2], by rw [ET.out], below_then hb hb2⟩
      case measure => have h := HF.out; simp [intOf, e2]; exact h

theorem fixedText_s (x : Int) (w : World) : Calls Tryd.prog 11 #[.int .i64 x] w fun e w' => e = .returned (.string (bs (fixT x))) ∧ Below w.heap.size w w' := by
  by_cases hv : rv x = true
  · have hb := sgn_bd x
    by_cases h0 : sgn x < 0
    · rw [fixT_neg hv h0]
      by_cases hz : (sgn x).natAbs % 16 = 0
      · exact fixedS_neg_whole x hv _ _ _ (by omega) (by omega) (by omega) rfl rfl hz w
      · exact fixedS_neg_rest x hv _ _ _ (by omega) (by omega) (by omega) rfl rfl (by omega) w
    · rw [fixT_pos hv h0]
      by_cases hz : (sgn x).natAbs % 16 = 0
      · exact fixedS_pos_whole x hv _ _ _ (by omega) (by omega) rfl rfl hz w
      · exact fixedS_pos_rest x hv _ _ _ (by omega) (by omega) rfl rfl (by omega) w
  · have hv' : rv x = false := by simpa using hv
    go_enter Tryd.func11, Tryd.ntmps11
    go_wp2_with (go_at_call 12; refine (ringValid_s _ _).mono ?_; rintro e w' ⟨rfl, rfl⟩)
    go_ret
    exact ⟨ret_str (by rw [bs_list, fixT_no hv']), Below.refl _ _⟩
end Go.Proofs.YtmilkkingeeblaaDoor
