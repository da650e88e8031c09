/- The contract of the program's FixedText: it returns the text of the number; behind the call all that was there stands. Conditions: the library's table of powers of ten holds what its initialiser lays. -/
import Derived.Test.YtmilkkingeeblaaDoorRing
import Derived.Test.YtmilkkingeeblaaDoorFx
import Derived.Test.YtmilkkingeeblaaDoorShelf
import Derived.Lib.SmallJoins
import Derived.Laws.Concat
import Derived.Below
namespace Go.Proofs.YtmilkkingeeblaaDoor
open Go Go.RowKit

/-- The library's table of powers of ten holds them. -/
def Tab (w : World) : Prop := Lib.TabIs Tryd.prog w "internal/strconv.uint64pow10" .u64 Lib.pow10Tab
theorem tabG : ∃ g, Tryd.prog.globalNamed "internal/strconv.uint64pow10" = some g := Option.isSome_iff_exists.1 (by kernel_rfl)
theorem Tab.stays {w w' : World} (h : Tab w) (hb : Below w.heap.size w w') : Tab w' := by
  obtain ⟨g, hg⟩ := tabG
  exact Joins.tab_stays hg h hb (Nat.le_refl _)
theorem below_grow (w : World) (k : Nat) (os : Array Obj) : Below w.heap.size w (Sort.grow (w.drewN k) os) :=
  ⟨rfl, rfl, rfl, by simp [Sort.grow, World.drewN], fun i hi => Sort.heap_grow_old (w.drewN k) os hi⟩
theorem below_then {w w1 w2 : World} (h : Below w.heap.size w w1) (h2 : Below w1.heap.size w1 w2) : Below w.heap.size w w2 := h.trans (h2.mono h.size)

/-- The bytes of a string. -/
theorem ba_eq {a b : ByteArray} (h : a.data.toList = b.data.toList) : a = b := by
  obtain ⟨⟨a⟩⟩ := a; obtain ⟨⟨b⟩⟩ := b; simp at h; subst h; rfl
theorem ret_str {a b : ByteArray} (h : a.data.toList = b.data.toList) : Ending.returned (.string a) = .returned (.string b) := by rw [ba_eq h]
/-- A string of these bytes. -/
def bs (l : List UInt8) : ByteArray := ⟨l.toArray⟩
theorem bs_list (l : List UInt8) : (bs l).data.toList = l := by simp [bs]
theorem bs_size (l : List UInt8) : (bs l).size = l.length := by simp [bs, ByteArray.size]
theorem bs_extract (l : List UInt8) (a b : Nat) : ((bs l).extract a b).data.toList = (l.drop a).take (b - a) := by rw [Lib.extract_data, bs_list]
theorem bs_of (s : ByteArray) : s = bs s.data.toList := ba_eq (bs_list _).symm
theorem bs_add {P : Program} (x y : List UInt8) (hx : x.length ≤ 4000000) (hy : y.length ≤ 4000000) (W : World) : (Op.stringOp .add (bs x) (bs y)).run P W = .ok (.string (bs (x ++ y))) W :=
  run_string_add_lists W x y (by omega) (by omega)
theorem d3_len (n : Nat) : (d3 n).length ≤ 3 := by unfold d3; split <;> (try split) <;> simp
theorem trim_len (l : List UInt8) (c : UInt8) : (Lib.trimRightB l c).length ≤ l.length := by
  have := (List.dropWhile_sublist (l := l.reverse) (fun x => x == c)).length_le
  simpa [Lib.trimRightB] using this
theorem frac_len (r : Nat) : (frac r).length ≤ 4 := trim_len _ _
theorem numT_parts {n q r : Nat} (hq : n / 16 = q) (hr : n % 16 = r) : numT n = d3 q ++ (if r = 0 then [] else 46 :: frac r) := by unfold numT; rw [hq, hr]

theorem itoa (n : Nat) (hn : n < 1000000) (w : World) (ht : Tab w) : Calls Tryd.prog 24 #[.int .i64 n] w fun e w' => e = .returned (.string (bs (Lib.decDigits n))) ∧ Below w.heap.size w w' :=
  (Tryd.strconv_Itoa n (by omega) (by omega) w ht).mono fun e w' ⟨he, k, os, hw⟩ => ⟨by rw [he, Lib.itoa_nonneg]; rfl, by rw [hw]; exact below_grow w k os⟩
theorem itoa_q (q : Nat) (hq : q < 1000) (w : World) (ht : Tab w) : Calls Tryd.prog 24 #[.int .i64 q] w fun e w' => e = .returned (.string (bs (d3 q))) ∧ Below w.heap.size w w' := by
  rw [← dec_d3 hq]; exact itoa q (by omega) w ht
/-- The digits behind the point, with a 1 ahead. -/
def five (r : Nat) : ByteArray := bs (Lib.decDigits (10000 + r * 625))
theorem five_list {r : Nat} (h : r < 16) : (five r).data.toList = [dgb 1, dgb (r * 625 / 1000), dgb (r * 625 / 100 % 10), dgb (r * 625 / 10 % 10), dgb (r * 625 % 10)] := by
  unfold five; rw [bs_list, dec_d5 (by omega)]
theorem five_size {r : Nat} (h : r < 16) : (five r).size = 5 := by rw [Lib.size_eq, five_list h]; rfl
theorem itoa_r (r : Nat) (hr : r < 16) (w : World) (ht : Tab w) : Calls Tryd.prog 24 #[.int .i64 (10000 + (r : Int) * 625)] w fun e w' => e = .returned (.string (five r)) ∧ Below w.heap.size w w' := by
  have := itoa (10000 + r * 625) (by omega) w ht
  rw [show ((10000 + r * 625 : Nat) : Int) = 10000 + (r : Int) * 625 by omega] at this
  exact this
theorem trim_r (r : Nat) (hr : r < 16) (w : World) : Calls Tryd.prog 25 #[.string ((five r).extract 1 (five r).size), .string ⟨#[48]⟩] w fun e w' => e = .returned (.string (bs (frac r))) ∧ w' = w := by
  have h : ((five r).extract 1 (five r).size).data.toList = [dgb (r * 625 / 1000), dgb (r * 625 / 100 % 10), dgb (r * 625 / 10 % 10), dgb (r * 625 % 10)] := by
    rw [Lib.extract_data, five_list hr, five_size hr]; rfl
  have := Tryd.strings_TrimRight_one ((five r).extract 1 (five r).size) 48 (by decide) w (by rw [Lib.size_eq, h]; simp)
  rw [h] at this
  exact this
set_option maxHeartbeats 1000000 in
theorem fixed_neg_whole (x : Int) (hv : rv x = true) (n q r : Nat) (hs : sgn x = -(n : Int)) (hn : n ≤ 4096) (hp : 1 ≤ n) (hq : n / 16 = q) (hr : n % 16 = r) (hz : r = 0) (w : World) (ht : Tab w) :
    Calls Tryd.prog 10 #[.int .i64 x] w fun e w' => e = .returned (.string (bs (45 :: numT n))) ∧ Below w.heap.size w w' := by
  have HP := Lib.hid (numT_parts hq hr)
  have cS : ∀ w, Calls Tryd.prog 23 #[.int .i64 x] w fun e w' => e = .returned (.int .i64 (-(n : Int))) ∧ w = w' := fun w => by rw [← hs]; exact signedOf x w
  have b1 : (1 : Int) ≤ (n : Int) := by omega
  have b2 : (n : Int) ≤ 4096 := by omega
  have bq : q < 1000 := by omega
  have br : r < 16 := by omega
  have hd : (n : Int) / 16 = (q : Int) := by omega
  have hm : bits .and .i64 (n : Int) 15 = (r : Int) := by rw [and_15]; omega
  have lq := d3_len q
  have lr := frac_len r
  obtain ⟨S1, k1, l1⟩ : ∃ S : ByteArray, (∀ W, (Op.stringOp .add ⟨#[45]⟩ (bs (d3 q))).run Tryd.prog W = .ok (.string S) W) ∧ Hid (S = bs (45 :: d3 q)) := ⟨_, fun W => bs_add [45] (d3 q) (by simp) (by omega) W, rfl⟩
  obtain rfl : r = 0 := hz
  clear hs hn hq hr lq lr hp
  go_enter Tryd.func10, Tryd.ntmps10
  go_wp2_with (first | (go_at_call 22; refine (ringValid _ _).mono ?_; rintro e w' ⟨rfl, rfl⟩) | (go_at_call 23; refine (cS _).mono ?_; rintro e w' ⟨rfl, rfl⟩))
  refine (itoa_q q bq _ ht).mono ?_
  rintro e w1 ⟨rfl, hb1⟩
  go_wp2_with fail
  go_ret
  exact ⟨ret_str (by rw [l1.out, bs_list, bs_list, HP.out]; simp), hb1⟩
set_option maxHeartbeats 1000000 in
theorem fixed_neg_rest (x : Int) (hv : rv x = true) (n q r : Nat) (hs : sgn x = -(n : Int)) (hn : n ≤ 4096) (hp : 1 ≤ n) (hq : n / 16 = q) (hr : n % 16 = r) (hz : 0 < r) (w : World) (ht : Tab w) :
    Calls Tryd.prog 10 #[.int .i64 x] w fun e w' => e = .returned (.string (bs (45 :: numT n))) ∧ Below w.heap.size w w' := by
  have HP := Lib.hid (numT_parts hq hr)
  have cS : ∀ w, Calls Tryd.prog 23 #[.int .i64 x] w fun e w' => e = .returned (.int .i64 (-(n : Int))) ∧ w = w' := fun w => by rw [← hs]; exact signedOf x w
  have b1 : (1 : Int) ≤ (n : Int) := by omega
  have b2 : (n : Int) ≤ 4096 := by omega
  have bq : q < 1000 := by omega
  have br : r < 16 := by omega
  have hd : (n : Int) / 16 = (q : Int) := by omega
  have hm : bits .and .i64 (n : Int) 15 = (r : Int) := by rw [and_15]; omega
  have lq := d3_len q
  have lr := frac_len r
  obtain ⟨S1, k1, l1⟩ : ∃ S : ByteArray, (∀ W, (Op.stringOp .add ⟨#[45]⟩ (bs (d3 q))).run Tryd.prog W = .ok (.string S) W) ∧ Hid (S = bs (45 :: d3 q)) := ⟨_, fun W => bs_add [45] (d3 q) (by simp) (by omega) W, rfl⟩
  obtain ⟨S2, k2, l2⟩ : ∃ S : ByteArray, (∀ W, (Op.stringOp .add S1 ⟨#[46]⟩).run Tryd.prog W = .ok (.string S) W) ∧ Hid (S = bs ((45 :: d3 q) ++ [46])) := ⟨bs ((45 :: d3 q) ++ [46]), fun W => by rw [l1.out]; exact bs_add (45 :: d3 q) [46] (by (try simp only [List.length_cons]); omega) (by simp) W, Lib.hid rfl⟩
  obtain ⟨S3, k3, l3⟩ : ∃ S : ByteArray, (∀ W, (Op.stringOp .add S2 (bs (frac r))).run Tryd.prog W = .ok (.string S) W) ∧ Hid (S = bs ((45 :: d3 q) ++ [46] ++ frac r)) := ⟨bs ((45 :: d3 q) ++ [46] ++ frac r), fun W => by rw [l2.out]; exact bs_add ((45 :: d3 q) ++ [46]) (frac r) (by simp; omega) (by omega) W, Lib.hid rfl⟩
  have f1 : (1 : Int) ≤ ((five r).size : Int) := by rw [five_size br]; decide
  have z0 : ((r : Int) == 0) = false := by simp; omega
  have HZ := Lib.hid hz
  clear hs hn hq hr lq lr hz hp
  go_enter Tryd.func10, Tryd.ntmps10
  go_wp2_with (first | (go_at_call 22; refine (ringValid _ _).mono ?_; rintro e w' ⟨rfl, rfl⟩) | (go_at_call 23; refine (cS _).mono ?_; rintro e w' ⟨rfl, rfl⟩))
  refine (itoa_q q bq _ ht).mono ?_
  rintro e w1 ⟨rfl, hb1⟩
  have t1 := ht.stays hb1
  go_wp2_with fail
  refine (itoa_r r br _ t1).mono ?_
  rintro e w2 ⟨rfl, hb2⟩
  go_wp2_with fail
  refine (trim_r r br _).mono ?_
  rintro e w' ⟨rfl, rfl⟩
  go_wp2_with fail
  go_ret
  exact ⟨ret_str (by rw [l3.out, bs_list, bs_list, HP.out, if_neg (by have := HZ.out; omega)]; simp), below_then hb1 hb2⟩
set_option maxHeartbeats 1000000 in
theorem fixed_pos_whole (x : Int) (hv : rv x = true) (n q r : Nat) (hs : sgn x = (n : Int)) (hn : n ≤ 4096) (hq : n / 16 = q) (hr : n % 16 = r) (hz : r = 0) (w : World) (ht : Tab w) :
    Calls Tryd.prog 10 #[.int .i64 x] w fun e w' => e = .returned (.string (bs (numT n))) ∧ Below w.heap.size w w' := by
  have HP := Lib.hid (numT_parts hq hr)
  have cS : ∀ w, Calls Tryd.prog 23 #[.int .i64 x] w fun e w' => e = .returned (.int .i64 ((n : Int))) ∧ w = w' := fun w => by rw [← hs]; exact signedOf x w
  have b1 : (0 : Int) ≤ (n : Int) := by omega
  have b2 : (n : Int) ≤ 4096 := by omega
  have bq : q < 1000 := by omega
  have br : r < 16 := by omega
  have hd : (n : Int) / 16 = (q : Int) := by omega
  have hm : bits .and .i64 (n : Int) 15 = (r : Int) := by rw [and_15]; omega
  have lq := d3_len q
  have lr := frac_len r
  obtain ⟨S1, k1, l1⟩ : ∃ S : ByteArray, (∀ W, (Op.stringOp .add ⟨#[]⟩ (bs (d3 q))).run Tryd.prog W = .ok (.string S) W) ∧ Hid (S = bs (d3 q)) := ⟨_, fun W => bs_add [] (d3 q) (by simp) (by omega) W, rfl⟩
  obtain rfl : r = 0 := hz
  clear hs hn hq hr lq lr
  go_enter Tryd.func10, Tryd.ntmps10
  go_wp2_with (first | (go_at_call 22; refine (ringValid _ _).mono ?_; rintro e w' ⟨rfl, rfl⟩) | (go_at_call 23; refine (cS _).mono ?_; rintro e w' ⟨rfl, rfl⟩))
  refine (itoa_q q bq _ ht).mono ?_
  rintro e w1 ⟨rfl, hb1⟩
  go_wp2_with fail
  go_ret
  exact ⟨ret_str (by rw [l1.out, bs_list, bs_list, HP.out]; simp), hb1⟩
set_option maxHeartbeats 1000000 in
theorem fixed_pos_rest (x : Int) (hv : rv x = true) (n q r : Nat) (hs : sgn x = (n : Int)) (hn : n ≤ 4096) (hq : n / 16 = q) (hr : n % 16 = r) (hz : 0 < r) (w : World) (ht : Tab w) :
    Calls Tryd.prog 10 #[.int .i64 x] w fun e w' => e = .returned (.string (bs (numT n))) ∧ Below w.heap.size w w' := by
  have HP := Lib.hid (numT_parts hq hr)
  have cS : ∀ w, Calls Tryd.prog 23 #[.int .i64 x] w fun e w' => e = .returned (.int .i64 ((n : Int))) ∧ w = w' := fun w => by rw [← hs]; exact signedOf x w
  have b1 : (0 : Int) ≤ (n : Int) := by omega
  have b2 : (n : Int) ≤ 4096 := by omega
  have bq : q < 1000 := by omega
  have br : r < 16 := by omega
  have hd : (n : Int) / 16 = (q : Int) := by omega
  have hm : bits .and .i64 (n : Int) 15 = (r : Int) := by rw [and_15]; omega
  have lq := d3_len q
  have lr := frac_len r
  obtain ⟨S1, k1, l1⟩ : ∃ S : ByteArray, (∀ W, (Op.stringOp .add ⟨#[]⟩ (bs (d3 q))).run Tryd.prog W = .ok (.string S) W) ∧ Hid (S = bs (d3 q)) := ⟨_, fun W => bs_add [] (d3 q) (by simp) (by omega) W, rfl⟩
  obtain ⟨S2, k2, l2⟩ : ∃ S : ByteArray, (∀ W, (Op.stringOp .add S1 ⟨#[46]⟩).run Tryd.prog W = .ok (.string S) W) ∧ Hid (S = bs ((d3 q) ++ [46])) := ⟨bs ((d3 q) ++ [46]), fun W => by rw [l1.out]; exact bs_add (d3 q) [46] (by (try simp only [List.length_cons]); omega) (by simp) W, Lib.hid rfl⟩
  obtain ⟨S3, k3, l3⟩ : ∃ S : ByteArray, (∀ W, (Op.stringOp .add S2 (bs (frac r))).run Tryd.prog W = .ok (.string S) W) ∧ Hid (S = bs ((d3 q) ++ [46] ++ frac r)) := ⟨bs ((d3 q) ++ [46] ++ frac r), fun W => by rw [l2.out]; exact bs_add ((d3 q) ++ [46]) (frac r) (by simp; omega) (by omega) W, Lib.hid rfl⟩
  have f1 : (1 : Int) ≤ ((five r).size : Int) := by rw [five_size br]; decide
  have z0 : ((r : Int) == 0) = false := by simp; omega
  have HZ := Lib.hid hz
  clear hs hn hq hr lq lr hz
  go_enter Tryd.func10, Tryd.ntmps10
  go_wp2_with (first | (go_at_call 22; refine (ringValid _ _).mono ?_; rintro e w' ⟨rfl, rfl⟩) | (go_at_call 23; refine (cS _).mono ?_; rintro e w' ⟨rfl, rfl⟩))
  refine (itoa_q q bq _ ht).mono ?_
  rintro e w1 ⟨rfl, hb1⟩
  have t1 := ht.stays hb1
  go_wp2_with fail
  refine (itoa_r r br _ t1).mono ?_
  rintro e w2 ⟨rfl, hb2⟩
  go_wp2_with fail
  refine (trim_r r br _).mono ?_
  rintro e w' ⟨rfl, rfl⟩
  go_wp2_with fail
  go_ret
  exact ⟨ret_str (by rw [l3.out, bs_list, bs_list, HP.out, if_neg (by have := HZ.out; omega)]; simp), below_then hb1 hb2⟩

theorem fixedText (x : Int) (w : World) (ht : Tab w) : Calls Tryd.prog 10 #[.int .i64 x] w fun e w' => e = .returned (.string (bs (fixT x))) ∧ Below w.heap.size w w' := by
  by_cases hv : rv x = true
  · have hb := sgn_bd x
    by_cases h0 : sgn x < 0
    · rw [fixT_neg hv h0]
      by_cases hz : (sgn x).natAbs % 16 = 0
      · exact fixed_neg_whole x hv _ _ _ (by omega) (by omega) (by omega) rfl rfl hz w ht
      · exact fixed_neg_rest x hv _ _ _ (by omega) (by omega) (by omega) rfl rfl (by omega) w ht
    · rw [fixT_pos hv h0]
      by_cases hz : (sgn x).natAbs % 16 = 0
      · exact fixed_pos_whole x hv _ _ _ (by omega) (by omega) rfl rfl hz w ht
      · exact fixed_pos_rest x hv _ _ _ (by omega) (by omega) rfl rfl (by omega) w ht
  · have hv' : rv x = false := by simpa using hv
    go_enter Tryd.func10, Tryd.ntmps10
    go_wp2_with (go_at_call 22; refine (ringValid _ _).mono ?_; rintro e w' ⟨rfl, rfl⟩)
    go_ret
    exact ⟨ret_str (by rw [bs_list, fixT_no hv']), Below.refl _ _⟩
end Go.Proofs.YtmilkkingeeblaaDoor
