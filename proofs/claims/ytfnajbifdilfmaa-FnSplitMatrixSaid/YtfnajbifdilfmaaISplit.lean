/- The contracts of SplitMatrix, of the program and of the reference, for all arguments. Conditions: at most 2 to the 20 values for the reference's. -/
import Derived.Test.YtfnajbifdilfmaaRMat
import Derived.Test.YtfnajbifdilfmaaSplit
namespace Go.Proofs.Ytfnajbifdilfmaa
open Go Go.RowKit

/-- Whether a matrix is split; its two parts; the last seed. -/
def sq (r c : Int) (xs : List Int) (s : Int) : Bool := mv r c xs && sv s
def sF (r c : Int) (xs : List Int) (s : Int) : List Int := pV (sq r c xs s) (rlist s xs.length)
def sS (r c : Int) (xs : List Int) (s : Int) : List Int := pV (sq r c xs s) (subL xs (rlist s xs.length))
def sZ (r c : Int) (xs : List Int) (s : Int) : Int := pN (sq r c xs s) (rseed s xs.length)
/-- A shared matrix of new memory and a number are returned: the second part's memory lies behind the first one's. -/
def RetSZ (w : World) (R C : Int) (l1 l2 : List Int) (z : Int) (e : Ending) (w' : World) : Prop :=
  ∃ (a : Option Addr) (cap : Nat) (a' : Option Addr) (cap' k : Nat), e = .returned (.tuple #[.agg #[.int .i64 R, .int .i64 C, .slice a l1.length cap, .int .i64 R, .int .i64 C, .slice a' l2.length cap'], .int .i64 z]) ∧
    w'.ownsRow w.heap.size 3 1 (.slice a l1.length cap) l1.length (ints l1) ∧ w'.ownsRow k 3 1 (.slice a' l2.length cap') l2.length (ints l2) ∧ w.heap.size ≤ k ∧ (∀ q, (Value.slice a l1.length cap).ownBlock = some q → q < k) ∧ w.grownBy w' none
theorem subR_len (xs : List Int) (s : Int) : (subL xs (rlist s xs.length)).length = xs.length := by unfold subL; rw [List.length_zipWith, rlist_len]; omega
theorem sq_yes {r c s : Int} {xs : List Int} (hm : mv r c xs = true) (hs : sv s = true) : pN (sq r c xs s) r = r ∧ pN (sq r c xs s) c = c ∧ sF r c xs s = rlist s xs.length ∧ sS r c xs s = subL xs (rlist s xs.length) ∧ sZ r c xs s = rseed s xs.length := by
  have : sq r c xs s = true := by simp [sq, hm, hs]
  simp [sF, sS, sZ, this, pN, pV]
theorem sq_no {r c s : Int} {xs : List Int} (hq : (mv r c xs && sv s) = false) : pN (sq r c xs s) r = 0 ∧ pN (sq r c xs s) c = 0 ∧ sF r c xs s = [] ∧ sS r c xs s = [] ∧ sZ r c xs s = 0 := by
  have : sq r c xs s = false := hq
  simp [sF, sS, sZ, this, pN, pV]
theorem sF_len (r c : Int) (xs : List Int) (s : Int) : (sF r c xs s).length ≤ 25 := by
  by_cases hq : sq r c xs s = true
  · have h1 : mv r c xs = true ∧ sv s = true := by simpa [sq] using hq
    obtain ⟨R, C, _, _, _, _, _, _, hl, h25⟩ := mv_dims h1.1
    rw [(sq_yes h1.1 h1.2).2.2.1, rlist_len]; omega
  · have hq : (mv r c xs && sv s) = false := by simpa [sq] using hq
    rw [(sq_no hq).2.2.1]; simp
theorem sS_len (r c : Int) (xs : List Int) (s : Int) : (sS r c xs s).length ≤ 25 := by
  by_cases hq : sq r c xs s = true
  · have h1 : mv r c xs = true ∧ sv s = true := by simpa [sq] using hq
    obtain ⟨R, C, _, _, _, _, _, _, hl, h25⟩ := mv_dims h1.1
    rw [(sq_yes h1.1 h1.2).2.2.2.1, subR_len]; omega
  · have hq : (mv r c xs && sv s) = false := by simpa [sq] using hq
    rw [(sq_no hq).2.2.2.1]; simp
set_option maxHeartbeats 1600000 in
theorem splitMatrix_no (r c s : Int) (v : Value) (xs : List Int) (w : World) (h : Sees w v xs) (hq : (mv r c xs && sv s) = false) :
    Calls Try.prog 43 #[.agg #[.int .i64 r, .int .i64 c, v], .int .i64 s] w (RetSZ w 0 0 [] [] 0) := by
  obtain ⟨a, cap, rfl⟩ := h.form
  obtain ⟨W, hW⟩ : ∃ W, W = (w.alloc (.cells #[.int .i64 r, .int .i64 c, .slice a xs.length cap] 26)).alloc (.cells #[.int .i64 0, .int .i64 0, .slice none 0 0, .int .i64 0, .int .i64 0, .slice none 0 0] 40) := ⟨_, rfl⟩
  have T1 : Three W w.heap.size (.int .i64 r) (.int .i64 c) (.slice a xs.length cap) := by rw [hW]; exact (Three.new w _ _ _ _).alloc _
  have T2 : Six W (w.heap.size + 1) (.int .i64 0) (.int .i64 0) (.slice none 0 0) (.int .i64 0) (.int .i64 0) (.slice none 0 0) := by rw [hW]; simpa using Six.new (w.alloc (.cells #[.int .i64 r, .int .i64 c, .slice a xs.length cap] 26)) (.int .i64 0) (.int .i64 0) (.slice none 0 0) (.int .i64 0) (.int .i64 0) (.slice none 0 0) 40
  have G0 : w.grownBy W none := by rw [hW]; exact gbt (World.grownBy_alloc _ _ _) (World.grownBy_alloc _ _ _)
  have hz : w.heap.size + 2 ≤ W.heap.size := by rw [hW]; simp
  have s1 := h.kept G0
  rw [hW] at s1 T1 T2 G0 hz
  clear hW h
  obtain ⟨p0, p1, p2, p3, p4, p5⟩ := id T1
  by_cases hm : mv r c xs = true
  · have hs : sv s = false := by simpa [hm] using hq
    go_enter Try.func43, Try.ntmps43
    go_wp2_with fail
    refine (mvq true _ _ _ xs _ s1 hm).mono ?_
    rintro e w2 ⟨rfl, hg⟩
    replace T2 := T2.kept hg (by simp)
    replace G0 := gbt G0 hg
    replace hz := Nat.le_trans hz hg.size
    clear hg T1 s1 p0 p1 p2 p3 p4 p5
    go_wp2_with fail
    refine (seedw false _ _ hs).mono ?_
    rintro e w' ⟨rfl, rfl⟩
    obtain ⟨q0, q1, q2, q3, q4, q5, q6, q7, q8, q9, qa, qb⟩ := T2
    go_wp2_with fail
    exact bodyPost_ret (v := .tuple #[.agg #[.int .i64 0, .int .i64 0, .slice none 0 0, .int .i64 0, .int .i64 0, .slice none 0 0], .int .i64 0]) (by simp [results, Try.results43, go_sem, q0, q1, q2, q3, q4, q5]) rfl ⟨none, 0, none, 0, w.heap.size, rfl, World.ownsRow_nil _ _ _ _, World.ownsRow_nil _ _ _ _, Nat.le_refl _, fun q e => (by simp [Value.ownBlock] at e), by repeat (with_reducible first | exact G0 | (refine gb_setNew ?_ (by omega) _ _))⟩
  · replace hm : mv r c xs = false := by simpa using hm
    go_enter Try.func43, Try.ntmps43
    go_wp2_with fail
    refine (mvq false _ _ _ xs _ s1 hm).mono ?_
    rintro e w2 ⟨rfl, hg⟩
    replace T2 := T2.kept hg (by simp)
    replace G0 := gbt G0 hg
    replace hz := Nat.le_trans hz hg.size
    clear hg T1 s1 p0 p1 p2 p3 p4 p5
    obtain ⟨q0, q1, q2, q3, q4, q5, q6, q7, q8, q9, qa, qb⟩ := T2
    go_wp2_with fail
    exact bodyPost_ret (v := .tuple #[.agg #[.int .i64 0, .int .i64 0, .slice none 0 0, .int .i64 0, .int .i64 0, .slice none 0 0], .int .i64 0]) (by simp [results, Try.results43, go_sem, q0, q1, q2, q3, q4, q5]) rfl ⟨none, 0, none, 0, w.heap.size, rfl, World.ownsRow_nil _ _ _ _, World.ownsRow_nil _ _ _ _, Nat.le_refl _, fun q e => (by simp [Value.ownBlock] at e), by repeat (with_reducible first | exact G0 | (refine gb_setNew ?_ (by omega) _ _))⟩
set_option maxHeartbeats 1600000 in
theorem splitMatrix_yes (r c s : Int) (v : Value) (xs : List Int) (w : World) (h : Sees w v xs) (hm : mv r c xs = true) (hs : sv s = true) :
    Calls Try.prog 43 #[.agg #[.int .i64 r, .int .i64 c, v], .int .i64 s] w (RetSZ w r c (rlist s xs.length) (subL xs (rlist s xs.length)) (rseed s xs.length)) := by
  obtain ⟨a, cap, rfl⟩ := h.form
  obtain ⟨W, hW⟩ : ∃ W, W = (w.alloc (.cells #[.int .i64 r, .int .i64 c, .slice a xs.length cap] 26)).alloc (.cells #[.int .i64 0, .int .i64 0, .slice none 0 0, .int .i64 0, .int .i64 0, .slice none 0 0] 40) := ⟨_, rfl⟩
  have T1 : Three W w.heap.size (.int .i64 r) (.int .i64 c) (.slice a xs.length cap) := by rw [hW]; exact (Three.new w _ _ _ _).alloc _
  have T2 : Six W (w.heap.size + 1) (.int .i64 0) (.int .i64 0) (.slice none 0 0) (.int .i64 0) (.int .i64 0) (.slice none 0 0) := by rw [hW]; simpa using Six.new (w.alloc (.cells #[.int .i64 r, .int .i64 c, .slice a xs.length cap] 26)) (.int .i64 0) (.int .i64 0) (.slice none 0 0) (.int .i64 0) (.int .i64 0) (.slice none 0 0) 40
  have G0 : w.grownBy W none := by rw [hW]; exact gbt (World.grownBy_alloc _ _ _) (World.grownBy_alloc _ _ _)
  have hz : w.heap.size + 2 ≤ W.heap.size := by rw [hW]; simp
  have s1 := h.kept G0
  rw [hW] at s1 T1 T2 G0 hz
  clear hW h
  obtain ⟨R, C, hr, hc, r1, r2, c1, c2, hl, h25⟩ := mv_dims hm
  obtain ⟨z, hzz⟩ : ∃ z, z = rseed s xs.length := ⟨_, rfl⟩
  obtain ⟨rl, hrl⟩ : ∃ rl, rl = rlist s xs.length := ⟨_, rfl⟩
  have hlen : rl.length = xs.length := by rw [hrl, rlist_len]
  have CR : ∀ u, Calls Try.prog 78 #[.int .i64 r, .int .i64 c, .int .i64 s] u (RetMZ u r c rl z) := by
    intro u
    have h1 := randomMatrix r c s u
    have d1 : sd r = true := sd_iff.2 (by omega)
    have d2 : sd c = true := sd_iff.2 (by omega)
    have hq : mok r c s = true := by simp [mok, d1, d2, hs]
    obtain ⟨hk, b0, b1, e3, e4⟩ := mok_parts d1 d2 hs
    have en : (r * c).toNat = xs.length := by rw [hr, hc, hl]; simp [← Int.natCast_mul]
    have e1 : mL r c s = rl := by rw [hrl, ← en, ← e3]; simp [mL, hq]
    have e2 : mZ r c s = z := by rw [hzz, ← en, ← e4]; simp [mZ, hq]
    rw [hq, e1, e2] at h1
    simpa [pN] using h1
  have hmr : mv r c rl = true := by
    obtain ⟨a1, a2, a3, _⟩ := mv_iff.1 hm
    exact mv_iff.2 ⟨a1, a2, by rw [hlen]; exact a3, by rw [hrl]; exact rlist_rv _ _⟩
  obtain ⟨sl, hsb⟩ : ∃ sl, sl = subL xs rl := ⟨_, rfl⟩
  have CS : ∀ u v v', Sees u v xs → Sees u v' rl → Calls Try.prog 24 #[.agg #[.int .i64 r, .int .i64 c, v], .agg #[.int .i64 r, .int .i64 c, v']] u (RetM u r c sl) := by
    intro u v v' k k'
    have h1 := subMatrices r c r c v v' xs rl u k k'
    rw [show lk r c xs r c rl = true from lk_iff.2 ⟨hm, hmr, rfl, rfl⟩] at h1
    rw [hsb]
    exact h1
  rw [← hrl, ← hzz, ← hsb]
  replace CR := Lib.hid CR
  replace CS := Lib.hid CS
  have HM := Lib.hid hm
  have HS := Lib.hid hs
  clear hr hc hl h25 hzz hrl hlen hmr hsb hm hs r1 r2 c1 c2
  obtain ⟨p0, p1, p2, p3, p4, p5⟩ := id T1
  go_enter Try.func43, Try.ntmps43
  go_wp2_with fail
  refine (mvq true _ _ _ xs _ s1 HM.out).mono ?_
  rintro e w2 ⟨rfl, hg⟩
  replace T1 := T1.kept hg (by simp)
  replace T2 := T2.kept hg (by simp)
  replace s1 := s1.kept hg
  replace G0 := gbt G0 hg
  replace hz := Nat.le_trans hz hg.size
  clear hg p0 p1 p2 p3 p4 p5
  go_wp2_with fail
  refine (seedw true _ _ HS.out).mono ?_
  rintro e w' ⟨rfl, rfl⟩
  have p0 := T1.c0
  have p1 := T1.c1
  go_wp2_with fail
  refine (CR.out _).mono ?_
  rintro e w3 ⟨a3, cap3, rfl, o3, hg⟩
  clear p0 p1
  have hb3 : ∀ q, (Value.slice a3 rl.length cap3).ownBlock = some q → q < w3.heap.size := fun q e => (o3.lt q e).2
  replace hb3 := Lib.hid hb3
  have hgx := gbt hg (World.grownBy_alloc w3 (.cells #[.int .i64 r, .int .i64 c, .slice a3 rl.length cap3] 26) none)
  have X := Three.new w3 (.int .i64 r) (.int .i64 c) (.slice a3 rl.length cap3) 26
  replace o3 := (own_base o3 (b' := w.heap.size + 2) hz).alloc (.cells #[.int .i64 r, .int .i64 c, .slice a3 rl.length cap3] 26)
  have hz3 : w.heap.size + 2 ≤ w3.heap.size := Nat.le_trans hz hg.size
  replace T1 := T1.kept hgx (by simp)
  replace T2 := T2.kept hgx (by simp)
  replace s1 := s1.kept hgx
  replace G0 := gbt G0 hgx
  clear hg hgx
  obtain ⟨u, hu⟩ : ∃ u, u = w3.alloc (.cells #[.int .i64 r, .int .i64 c, .slice a3 rl.length cap3] 26) := ⟨_, rfl⟩
  have x0 := X.c0
  have x1 := X.c1
  have x2 := X.c2
  have p0 := T1.c0
  have p1 := T1.c1
  have p2 := T1.c2
  go_wp2_with fail
  clear x0 x1 x2 p0 p1 p2
  have hzu : w3.heap.size + 1 = u.heap.size := by rw [hu]; simp
  rw [← hu] at X o3 T1 T2 s1 G0 ⊢
  clear hu
  have HK : Hid (∀ w', u.grownBy w' none → w'.cell? ⟨w3.heap.size, 0, none⟩ = some (.int .i64 r) ∧ w'.cell? ⟨w3.heap.size, 1, none⟩ = some (.int .i64 c) ∧ w'.cell? ⟨w3.heap.size, 2, none⟩ = some (.slice a3 rl.length cap3) ∧ w'.cell? ⟨w.heap.size, 0, none⟩ = some (.int .i64 r) ∧ w'.cell? ⟨w.heap.size, 1, none⟩ = some (.int .i64 c) ∧ w'.cell? ⟨w.heap.size, 2, none⟩ = some (.slice a xs.length cap)) := fun w' h =>
    ⟨(X.kept h (by simp)).c0, (X.kept h (by simp)).c1, (X.kept h (by simp)).c2, (T1.kept h (by simp)).c0, (T1.kept h (by simp)).c1, (T1.kept h (by simp)).c2⟩
  have s3 := (Sees.of_own o3).kept (gb_drew u none)
  replace s1 := s1.kept (gb_drew u none)
  have K0 := gb_drew u none
  have hn1 : w.heap.size + 1 ≠ w3.heap.size := by omega
  have hn2 : w.heap.size + 1 ≠ w.heap.size := by omega
  go_region_held3 (fun w' => w'.cell? ⟨w3.heap.size, 0, none⟩ = some (.int .i64 r) ∧ w'.cell? ⟨w3.heap.size, 1, none⟩ = some (.int .i64 c) ∧ w'.cell? ⟨w3.heap.size, 2, none⟩ = some (.slice a3 rl.length cap3) ∧ w'.cell? ⟨w.heap.size, 0, none⟩ = some (.int .i64 r) ∧ w'.cell? ⟨w.heap.size, 1, none⟩ = some (.int .i64 c) ∧ w'.cell? ⟨w.heap.size, 2, none⟩ = some (.slice a xs.length cap))
    (first | exact HK.out _ (by with_reducible assumption) | (refine ⟨?_, ?_, ?_, ?_, ?_, ?_⟩ <;> (repeat (with_reducible first | exact u0 | exact u1 | exact u2 | exact u3 | exact u4 | exact u5 | refine cell_far ?_ (by first | exact hn1 | exact hn2)))))
    (first | (go_at_call 24; refine (CS.out _ _ _ s1 s3).mono ?_; rintro e w5 ⟨a5, cap5, rfl, o5, hg5⟩; have K1 := gbt K0 hg5; obtain ⟨u0, u1, u2, u3, u4, u5⟩ := HK.out _ K1; obtain ⟨q0, q1, q2, q3, q4, q5, q6, q7, q8, q9, qa, qb⟩ := T2.kept K1 (by simp); have o3' := own_kept o3 K1; have G1 := gbt G0 K1; have o5' := own_base o5 (b' := u.heap.size) (by show u.heap.size ≤ u.heap.size; omega); clear s1 s3 K0 o3 o5 T2 G0 hg5))
  go_wp2_with fail
  clear u0 u1 u2 u3 u4 u5
  exact bodyPost_ret (v := .tuple #[.agg #[.int .i64 r, .int .i64 c, .slice a3 rl.length cap3, .int .i64 r, .int .i64 c, .slice a5 sl.length cap5], .int .i64 z]) (by simp [results, Try.results43, go_sem, q0, q1, q2, q3, q4, q5]) rfl
    ⟨a3, cap3, a5, cap5, u.heap.size, rfl, own_base (b := w.heap.size + 2) (by repeat (with_reducible first | exact o3' | (refine ownsRow_setCell_below ?_ (by show w.heap.size + 1 < w.heap.size + 2; omega) _))) (by omega), by repeat (with_reducible first | exact o5' | (refine ownsRow_setCell_below ?_ (by show w.heap.size + 1 < u.heap.size; omega) _)), by omega, fun q e => by have := hb3.out q e; omega, by repeat (with_reducible first | exact G1 | (refine gb_setNew ?_ (by omega) _ _))⟩
theorem splitMatrix (r c s : Int) (v : Value) (xs : List Int) (w : World) (h : Sees w v xs) :
    Calls Try.prog 43 #[.agg #[.int .i64 r, .int .i64 c, v], .int .i64 s] w (RetSZ w (pN (sq r c xs s) r) (pN (sq r c xs s) c) (sF r c xs s) (sS r c xs s) (sZ r c xs s)) := by
  by_cases hq : (mv r c xs && sv s) = true
  · have hm : mv r c xs = true := by simp at hq; exact hq.1
    have hs : sv s = true := by simp at hq; exact hq.2
    obtain ⟨e1, e2, e3, e4, e5⟩ := sq_yes hm hs
    rw [e1, e2, e3, e4, e5]
    exact splitMatrix_yes r c s v xs w h hm hs
  · replace hq : (mv r c xs && sv s) = false := by simpa using hq
    obtain ⟨e1, e2, e3, e4, e5⟩ := sq_no hq
    rw [e1, e2, e3, e4, e5]
    exact splitMatrix_no r c s v xs w h hq
/-- A shared matrix of new memory and a number are returned. -/
def RetSX (w : World) (R C : Int) (l1 l2 : List Int) (z : Int) (e : Ending) (w' : World) : Prop :=
  ∃ (a : Option Addr) (cap : Nat) (a' : Option Addr) (cap' : Nat), e = .returned (.tuple #[.agg #[.int .i64 R, .int .i64 C, .slice a l1.length cap, .int .i64 R, .int .i64 C, .slice a' l2.length cap'], .int .i64 z]) ∧
    w'.ownsRow w.heap.size 3 1 (.slice a l1.length cap) l1.length (ints l1) ∧ w'.ownsRow w.heap.size 3 1 (.slice a' l2.length cap') l2.length (ints l2) ∧ w.grownBy w' none
theorem splitMatrix_s (r c s : Int) (v : Value) (xs : List Int) (w : World) (h : Sees w v xs) (hn : xs.length ≤ 1048576) :
    Calls Try.prog 44 #[.agg #[.int .i64 r, .int .i64 c, v], .int .i64 s] w (RetSX w (pN (sq r c xs s) r) (pN (sq r c xs s) c) (sF r c xs s) (sS r c xs s) (sZ r c xs s)) := by
  by_cases hq : (mv r c xs && sv s) = true
  · have hm : mv r c xs = true := by simp at hq; exact hq.1
    have hs : sv s = true := by simp at hq; exact hq.2
    obtain ⟨e1, e2, e3, e4, e5⟩ := sq_yes hm hs
    rw [e1, e2, e3, e4, e5]
    refine (splitMatrix_s_yes r c s v xs w h hn hm hs).mono ?_
    rintro e w' ⟨a, cap, a', cap', rfl, o1, o2, hg⟩
    have l1 : (rlist s xs.length).length = xs.length := rlist_len _ _
    have l2 := subR_len xs s
    refine ⟨a, cap, a', cap', ?_, ?_, ?_, hg⟩
    · rw [l1, l2]
    · rw [l1]; exact o1
    · rw [l2]; exact o2
  · replace hq : (mv r c xs && sv s) = false := by simpa using hq
    obtain ⟨e1, e2, e3, e4, e5⟩ := sq_no hq
    rw [e1, e2, e3, e4, e5]
    refine (splitMatrix_s_no r c s v xs w h hn hq).mono ?_
    rintro e w' ⟨rfl, hg⟩
    exact ⟨none, 0, none, 0, rfl, World.ownsRow_nil _ _ _ _, World.ownsRow_nil _ _ _ _, hg⟩
theorem heldSharedMatrix (r c r' c' : Int) (n n' : Nat) (v v' : Value) (k0 : Int) (w : World) (h : Sees w v (upFrom k0 n)) (h' : Sees w v' (upFrom (k0 + n) n')) (hn : n ≤ 1048576) (hn' : n' ≤ 1048576) (hk0 : 0 ≤ k0 ∧ k0 ≤ 1073741824) :
    Calls Try.prog 46 #[.agg #[.int .i64 r, .int .i64 c, v, .int .i64 r', .int .i64 c', v'], .int .i64 k0] w fun e w' => e = .returned (.int .i64 (k0 + n + n')) ∧ w.grownBy w' none := by
  have T1 := Six.new w (.int .i64 r) (.int .i64 c) v (.int .i64 r') (.int .i64 c') v' 40
  have G0 : w.grownBy (w.alloc (.cells #[.int .i64 r, .int .i64 c, v, .int .i64 r', .int .i64 c', v'] 40)) none := World.grownBy_alloc _ _ _
  replace h := h.kept G0
  replace h' := h'.kept G0
  have ok0 : ¬ k0 + (n : Int) < 0 := by omega
  have ok1 : ¬ k0 + (n : Int) + (n' : Int) < 0 := by omega
  go_enter Try.func46, Try.ntmps46
  go_wp2_with fail
  refine (heldMatrix _ _ n _ k0 _ h (by omega) (by omega)).mono ?_
  rintro e w1 ⟨rfl, hg⟩
  replace T1 := T1.kept hg (by simp)
  replace h' := h'.kept hg
  replace G0 := gbt G0 hg
  clear hg h
  obtain ⟨p0, p1, p2, p3, p4, p5, _, _, _, _, _, _⟩ := T1
  go_wp2_with fail
  refine (heldMatrix _ _ n' _ (k0 + n) _ h' (by omega) (by omega)).mono ?_
  rintro e w2 ⟨rfl, hg⟩
  replace G0 := gbt G0 hg
  clear hg
  go_wp2_with fail
  go_ret
  exact ⟨rfl, G0⟩
theorem markSharedMatrix2 (r c r' c' : Int) (base base' : Nat) (v v' : Value) (xs ys : List Int) (n n' : Nat) (k0 : Int) (w : World) (h : w.ownsRow base 3 1 v n (ints xs)) (h' : w.ownsRow base' 3 1 v' n' (ints ys)) (hne : v'.ownBlock = none ∨ v'.ownBlock ≠ v.ownBlock) (hne' : v.ownBlock = none ∨ v.ownBlock ≠ v'.ownBlock) (hn : n ≤ 1048576) (hn' : n' ≤ 1048576) (hk0 : 0 ≤ k0 ∧ k0 ≤ 1073741824) :
    Calls Try.prog 40 #[.agg #[.int .i64 r, .int .i64 c, v, .int .i64 r', .int .i64 c', v'], .int .i64 k0] w fun e w' => e = .returned (.int .i64 (k0 + n + n')) ∧
      w'.ownsRow base 3 1 v n (ints (upFrom k0 n)) ∧ w'.ownsRow base' 3 1 v' n' (ints (upFrom (k0 + n) n')) ∧ ∃ wm, w.grownBy wm v.ownBlock ∧ wm.grownBy w' v'.ownBlock := by
  have T1 := Six.new w (.int .i64 r) (.int .i64 c) v (.int .i64 r') (.int .i64 c') v' 40
  have G1 : w.grownBy (w.alloc (.cells #[.int .i64 r, .int .i64 c, v, .int .i64 r', .int .i64 c', v'] 40)) v.ownBlock := World.grownBy_alloc _ _ _
  have hlt : ∀ q, v.ownBlock = some q → q < w.heap.size := fun q e => (h.lt q e).2
  have h1 := h.alloc (.cells #[.int .i64 r, .int .i64 c, v, .int .i64 r', .int .i64 c', v'] 40)
  have h2 := h'.alloc (.cells #[.int .i64 r, .int .i64 c, v, .int .i64 r', .int .i64 c', v'] 40)
  obtain ⟨m1, m2⟩ := hk0
  obtain ⟨av, cv, rfl⟩ := own_slice h
  obtain ⟨av', cv', rfl⟩ := own_slice h'
  go_enter Try.func40, Try.ntmps40
  go_wp2_with fail
  refine (markMatrix _ _ base n _ xs k0 _ h1 (by omega) (by constructor <;> omega)).mono ?_
  rintro e w1 ⟨rfl, h3, hg⟩
  replace T1 := T1.kept hg (by intro e; have := hlt _ e.symm; omega)
  replace h2 := h2.kept hg hne
  have G2 := gbt G1 hg
  clear hg h1 G1
  obtain ⟨p0, p1, p2, p3, p4, p5, _, _, _, _, _, _⟩ := T1
  go_wp2_with fail
  refine (markMatrix _ _ base' n' _ ys (k0 + n) _ h2 (by omega) (by constructor <;> omega)).mono ?_
  rintro e w2 ⟨rfl, h4, hg⟩
  replace h3 := h3.kept hg hne'
  go_wp2_with fail
  go_ret
  exact ⟨rfl, h3, h4, w1, G2, hg⟩
end Go.Proofs.Ytfnajbifdilfmaa
