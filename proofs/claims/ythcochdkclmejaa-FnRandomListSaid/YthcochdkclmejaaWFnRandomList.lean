/- The law FnRandomList returns true for every code: lists are random numbers one by one, two parts, one behind the other, are the list. Conditions: none. The walk. -/
import Derived.Test.YthcochdkclmejaaRLD
import Derived.Test.YthcochdkclmejaaMat
import Derived.Test.YthcochdkclmejaaTurnS
import Derived.Test.YthcochdkclmejaaCol
import Derived.WalkKit
import Derived.WalkLawsBesides
import Derived.WalkSpells
import Derived.Deep.RegionHeld3
namespace Go.Proofs.Ythcochdkclmejaa.fnRandomList
open Go Go.RowKit
set_option linter.unusedVariables false

/-- An operation whose guard holds goes as one without a guard. -/
theorem wpList_wanted {P : Program} {ops : Array Oper} {Q : Exit → Act → World → Prop} {o : Oper} {rest : List Oper} {a : Act} {w : World} (hw : Region.wanted o (yielded ops a.tmps) = true) (h : wpList P ops Q ({ o with guard := none } :: rest) a w) : wpList P ops Q (o :: rest) a w := by
  unfold wpList at h ⊢
  rw [if_pos hw]
  rw [if_pos (by rfl)] at h
  exact h
set_option maxHeartbeats 3200000 in
theorem walk (a0 : Option Addr) (len0 cap0 : Nat) (z0 : List Int) (w : World) (w0 : IsRow .u8 w a0 len0 cap0 z0) :
    Calls Try.prog 9 #[.slice a0 len0 cap0] w fun e w' => e = .returned (.bool true) ∧ Below w.heap.size w w' := by
  by_cases hl : 1048576 < len0
  · have h1 : (1048576 : Int) < (len0 : Int) := by omega
    go_enter Try.func9, Try.ntmps9
    go_wp2
    go_ret
    exact ⟨rfl, Below.refl _ _⟩
  · have h1 : (len0 : Int) ≤ 1048576 := by omega
    go_enter Try.func9, Try.ntmps9
    go_wp2_with fail
    refine (drawRandomList _ _ _ _ _ w0).mono ?_
    rintro e w1 ⟨s, m, rfl, G0⟩
    obtain ⟨q, hq⟩ : ∃ q, q = rok s m := ⟨_, rfl⟩
    obtain ⟨l, hll⟩ : ∃ l, l = rL s m := ⟨_, rfl⟩
    obtain ⟨z, hzz⟩ : ∃ z, z = rZ s m := ⟨_, rfl⟩
    have C1 : ∀ u, Calls Try.prog 30 #[.int .i64 s, .int .i64 m] u (RetL u l z) := by intro u; rw [hll, hzz]; exact randomList s m u
    have C2 : ∀ u, Calls Try.prog 29 #[.int .i64 s, .int .i64 m] u (RetL u l z) := by intro u; rw [hll, hzz]; exact randomList_s s m u
    have F0 : q = false → l = [] ∧ z = 0 := by
      intro h
      have h2 : rok s m = false := hq.symm.trans h
      exact ⟨by rw [hll]; simp [rL, h2], by rw [hzz]; simp [rZ, h2]⟩
    have F1 : q = true → (z == 0) = false ∧ (0 ≤ m ∧ m ≤ 4096) ∧ (l.length : Int) = m ∧ ∃ (la lb : List Int) (z1 : Int), la.length ≤ 4096 ∧ lb.length ≤ 4096 ∧ l = la ++ lb ∧ (∀ u, Calls Try.prog 30 #[.int .i64 s, .int .i64 (m.tdiv 2)] u (RetL u la z1)) ∧ (∀ u, Calls Try.prog 30 #[.int .i64 z1, .int .i64 (m - m.tdiv 2)] u (RetL u lb z)) := by
      intro h
      have h2 : rok s m = true := hq.symm.trans h
      have h3 := h2
      simp [rok] at h3
      obtain ⟨hs, hm0, hm1⟩ := h3
      have hd : 0 ≤ m.tdiv 2 ∧ m.tdiv 2 ≤ m := by rw [Int.tdiv_eq_ediv_of_nonneg hm0]; omega
      generalize m.tdiv 2 = d at hd ⊢
      have e1 : l = rlist s m.toNat := by rw [hll]; simp [rL, h2]
      have e2 : z = rseed s m.toNat := by rw [hzz]; simp [rZ, h2]
      have k1 : rok s d = true := by simp [rok, hs]; omega
      have hs1 := rseed_sv s hs d.toNat
      have k2 : rok (rseed s d.toNat) (m - d) = true := by simp [rok, hs1]; omega
      have en : m.toNat = d.toNat + (m - d).toNat := by omega
      refine ⟨?_, ⟨hm0, hm1⟩, by rw [e1, rlist_len]; omega, rlist s d.toNat, rlist (rseed s d.toNat) (m - d).toNat, rseed s d.toNat, by rw [rlist_len]; omega, by rw [rlist_len]; omega, by rw [e1, en, rlist_add], ?_, ?_⟩
      · have h5 := (sv_iff.1 (rseed_sv s hs m.toNat)).1
        rw [e2]
        simp; omega
      · intro u
        have h6 := randomList s d u
        simpa [rL, rZ, k1] using h6
      · intro u
        have h6 := randomList (rseed s d.toNat) (m - d) u
        rw [e2, en, rseed_add]
        simpa [rL, rZ, k2] using h6
    have hll4 : l.length ≤ 4096 := by rw [hll]; exact rL_len s m
    replace C1 := Lib.hid C1
    replace C2 := Lib.hid C2
    replace F0 := Lib.hid F0
    replace F1 := Lib.hid F1
    have hzn : (z != z) = false := by simp
    have hze : (z == z) = true := by simp
    clear hq hll hzz
    go_wp2_with fail
    refine (C1.out _).mono ?_
    rintro e w2 ⟨aG, capG, rfl, oG, hg⟩
    have sG := Sees.of_own oG
    have bG : ∀ q, (Value.slice aG l.length capG).ownBlock = some q → q < w2.heap.size := fun q e => (oG.lt q e).2
    have m2 := hg.size
    replace G0 := gbt G0 hg
    clear hg oG
    go_wp2_with fail
    refine (C2.out _).mono ?_
    rintro e w3 ⟨aW, capW, rfl, oW, hg⟩
    have sW := Sees.of_own oW
    have m3 := hg.size
    replace sG := sG.kept hg
    replace G0 := gbt G0 hg
    clear hg oW
    go_wp2_with fail
    refine (sameInts _ _ l _ sG sW).mono ?_
    rintro e w4 ⟨rfl, hg⟩
    have m4 := hg.size
    replace sG := sG.kept hg
    replace G0 := gbt G0 hg
    clear hg sW
    cases q with
    | false =>
      obtain ⟨rfl, rfl⟩ := F0.out rfl
      go_wp2_with (go_at_call 20; refine (alive _).mono ?_; rintro e w' ⟨rfl, rfl⟩)
      go_ret
      exact ⟨rfl, gb_below G0⟩
    | true =>
      obtain ⟨hz0, ⟨hm0, hm1⟩, hlm, la, lb, z1, ka, kb, hlab, C3, C4⟩ := F1.out rfl
      replace C3 := Lib.hid C3
      replace C4 := Lib.hid C4
      have hd : 0 ≤ m.tdiv 2 ∧ m.tdiv 2 ≤ m := by rw [Int.tdiv_eq_ediv_of_nonneg hm0]; omega
      have ew1 : IntKind.i64.wrap (m.tdiv 2) = m.tdiv 2 := by rw [IntKind.wrap_i64]; omega
      have ew2 : IntKind.i64.wrap (m - m.tdiv 2) = m - m.tdiv 2 := by rw [IntKind.wrap_i64]; omega
      clear C1 C2 F0 F1
      go_wp2_with fail
      refine (C3.out _).mono ?_
      rintro e w5 ⟨aA, capA, rfl, oA, hg⟩
      have sA := Sees.of_own oA
      have m5 := hg.size
      replace sG := sG.kept hg
      replace G0 := gbt G0 hg
      clear hg oA
      go_wp2_with fail
      refine (C4.out _).mono ?_
      rintro e w6 ⟨aB, capB, rfl, oB, hg⟩
      have sB := Sees.of_own oB
      have m6 := hg.size
      have bB : ∀ q, (Value.slice aB lb.length capB).ownBlock = some q → q < w6.heap.size := fun q e => (oB.lt q e).2
      replace sG := sG.kept hg
      replace sA := sA.kept hg
      replace G0 := gbt G0 hg
      clear hg oB
      subst hlab
      simp only [List.length_append] at hll4 sG bG hlm
      have hlm' : (la.length : Int) + (lb.length : Int) = m := by omega
      clear hlm
      have bG' : ∀ q, (Value.slice aG (la.length + lb.length) capG).ownBlock = some q → q < w6.heap.size := fun q e => by have := bG q e; omega
      have BB := Lib.hid bB
      have BG := Lib.hid bG'
      clear bB bG bG'
      obtain ⟨i0, hi, hz0', hz1', hz2'⟩ := info_parts info_int
      have ho : (w6.alloc (.cells #[] 3)).ownsRow w6.heap.size 3 1 (.slice (some ⟨w6.heap.size, 0, none⟩) 0 0) 0 [] := World.ownsRow_made w6 #[] 0 (Nat.le_refl _) (by decide) rfl
      have sA0 := sA.alloc (.cells #[] 3)
      have sB0 := sB.alloc (.cells #[] 3)
      have sG0 := sG.alloc (.cells #[] 3)
      have G6 := gbt G0 (World.grownBy_alloc w6 (.cells #[] 3) none)
      have hw6 : w.heap.size ≤ w6.heap.size := G0.size
      clear sA sB sG G0
      cases aA with
      | none =>
        obtain ⟨rfl, rfl⟩ := sees_nil sA0
        clear sA0
        simp only [List.nil_append, List.length_nil, Nat.zero_add] at sG0 BG hll4
        have hlm2 : (lb.length : Int) = m := by simpa using hlm'
        clear hlm' ka C3
        cases aB with
        | none =>
          obtain ⟨rfl, rfl⟩ := sees_nil sB0
          clear sB0
          have s1 := Sees.of_own (xs := []) ho
          go_wp2_with (go_at_call 35; refine (sameInts _ _ [] _ s1 sG0).mono ?_; rintro e w7 ⟨rfl, hg⟩)
          go_ret
          exact ⟨rfl, gb_below (gbt G6 hg)⟩
        | some adB =>
          have HN := Lib.hid (sees_news sB0)
          have HO := Lib.hid ho
          clear ho
          go_wp2_with (at_builtin; refine wpList_wanted (by rfl) ?_; refine wpList_append_own _ rfl _ _ 34 rfl w6.heap.size 3 i0 (.int .i64 0) 1 8 Try.underlying34 hi hz0' hz1' hz2' rfl (by decide) _ _ _ rfl HO.out adB lb.length capB (ints lb) rfl ?c0 HN.out ?c2 ?c3 ?c4 ?c5 ?_)
          case c0 => simp
          case c2 => intro u hu; simp at hu; obtain ⟨x, _, rfl⟩ := hu; rfl
          case c3 => unfold maxLen; omega
          case c4 => omega
          case c5 => (first | (simp; (first | done | fail)) | omega)
          intro v2 u2 ho2 hg2 _
          have sG2 := sG0.kept_row hg2 (by cases aG with | none => exact .inl rfl | some g => right; intro e; have h7 := BG.out g.block rfl; simp [Value.ownBlock] at e; omega)
          have G8 : w.grownBy u2 none := gb_none G6 hg2 (fun q e => by simp [Value.ownBlock] at e; omega)
          (try simp only [Nat.zero_add, List.nil_append] at ho2)
          obtain ⟨a2, cap2, rfl⟩ := own_slice ho2
          have s2 := Sees.of_own ho2
          clear hg2 ho2 HN HO
          go_wp2_with (go_at_call 35; refine (sameInts _ _ lb _ s2 sG2).mono ?_; rintro e w7 ⟨rfl, hg⟩)
          go_ret
          exact ⟨rfl, gb_below (gbt G8 hg)⟩
      | some adA =>
        have HN := Lib.hid (sees_news sA0)
        have HO := Lib.hid ho
        clear sA0 ho
        go_wp2_with (at_builtin; refine wpList_wanted (by rfl) ?_; refine wpList_append_own _ rfl _ _ 34 rfl w6.heap.size 3 i0 (.int .i64 0) 1 8 Try.underlying34 hi hz0' hz1' hz2' rfl (by decide) _ _ _ rfl HO.out adA la.length capA (ints la) rfl ?c0 HN.out ?c2 ?c3 ?c4 ?c5 ?_)
        case c0 => simp
        case c2 => intro u hu; simp at hu; obtain ⟨x, _, rfl⟩ := hu; rfl
        case c3 => unfold maxLen; omega
        case c4 => omega
        case c5 => (first | (simp; (first | done | fail)) | omega)
        intro v1 u1 ho1 hg1 hv1
        have sG1 := sG0.kept_row hg1 (by cases aG with | none => exact .inl rfl | some g => right; intro e; have h7 := BG.out g.block rfl; simp [Value.ownBlock] at e; omega)
        have sB1 := sB0.kept_row hg1 (by cases aB with | none => exact .inl rfl | some g => right; intro e; have h7 := BB.out g.block rfl; simp [Value.ownBlock] at e; omega)
        have G7 : w.grownBy u1 none := gb_none G6 hg1 (fun q e => by simp [Value.ownBlock] at e; omega)
        have m7 := hg1.size
        simp at m7
        (try simp only [Nat.zero_add, List.nil_append] at ho1)
        obtain ⟨g1, cap1, rfl, hcp⟩ : ∃ g cap, v1 = .slice (some ⟨g, 0, none⟩) la.length cap ∧ la.length ≤ cap := by
          rcases ho1.2 with ⟨e, _⟩ | ⟨g, cap, _, e, _, _, hcp, _⟩
          · simp [e] at hv1
          · exact ⟨g, cap, e, hcp⟩
        clear hv1
        clear hg1 HN HO sG0 sB0
        cases aB with
        | none =>
          obtain ⟨rfl, rfl⟩ := sees_nil sB1
          clear sB1
          simp only [List.append_nil, List.length_nil, Nat.add_zero] at sG1
          have s1 := Sees.of_own ho1
          go_wp2_with (go_at_call 35; refine (sameInts _ _ la _ s1 sG1).mono ?_; rintro e w7 ⟨rfl, hg⟩)
          go_ret
          exact ⟨rfl, gb_below (gbt G7 hg)⟩
        | some adB =>
          have HN := Lib.hid (sees_news sB1)
          have HO := Lib.hid ho1
          go_wp2_with (at_builtin; refine wpList_wanted (by rfl) ?_; refine wpList_append_own _ rfl _ _ 34 rfl w6.heap.size 3 i0 (.int .i64 0) 1 8 Try.underlying34 hi hz0' hz1' hz2' rfl (by decide) _ _ _ rfl HO.out adB lb.length capB (ints lb) rfl ?c0 HN.out ?c2 ?c3 ?c4 ?c5 ?_)
          case c0 => simp
          case c2 => intro u hu; simp at hu; obtain ⟨x, _, rfl⟩ := hu; rfl
          case c3 => unfold maxLen; omega
          case c4 => omega
          case c5 => (first | (simp; (first | done | fail)) | omega)
          intro v2 u2 ho2 hg2 _
          have sG2 := sG1.kept_row hg2 (by cases aG with | none => exact .inl rfl | some g => right; intro e; have h7 := BG.out g.block rfl; have h8 := (ho1.lt g.block e.symm).1; omega)
          have G8 : w.grownBy u2 none := gb_none G7 hg2 (fun q e => by have h8 := (ho1.lt q e).1; omega)
          obtain ⟨a2, cap2, rfl⟩ := own_slice ho2
          have s2 : Sees u2 (.slice a2 (la.length + lb.length) cap2) (la ++ lb) := Sees.of_own (by rw [List.map_append]; exact ho2)
          clear hg2 ho2 HN HO
          go_wp2_with (go_at_call 35; refine (sameInts _ _ (la ++ lb) _ s2 sG2).mono ?_; rintro e w7 ⟨rfl, hg⟩)
          go_ret
          exact ⟨rfl, gb_below (gbt G8 hg)⟩
end Go.Proofs.Ythcochdkclmejaa.fnRandomList
