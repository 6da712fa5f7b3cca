-- Laid by a program of this session (wip/myprint.py) out of the translation; some contracts in it are the session's own.
import Derived.Test.YtfcckbkmkpinbaaPFnExactGapsAroundx0
import Derived.Test.YtfcckbkmkpinbaaPFnExactGapsAroundx1
namespace Go.Proofs.Ytfcckbkmkpinbaa.PFnExactGapsAround
open Go.RowKit Go.Proofs.YtfcckbkmkpinbaaW.PrintWords Go.Proofs.YtfcckbkmkpinbaaW.PrintLast Go.Proofs.YtfcckbkmkpinbaaW.PrintMore
attribute [local go_sem] max2_int min2_int max_two min_two max_three min_three max_four min_four   -- for this text's walks alone
set_option linter.unusedVariables false
set_option linter.unusedSimpArgs false

/-! ### spec_tkFrom: function 34 -/
def spec_tkFrom.l0 : Nat → ByteArray → Int → List Int → List Int → Int → Int → Option (Int)
  | 0, _, _, _, _, _, _ => none
  | k + 1, x1, x6, x7, x37, x38, x39 => if x39 < x38 then (if 0 ≤ x39 then (if x39 < (x37.length : Int) then ((spec_tkSum.f k x1).bind fun t126 => ((spec_tkOf.f x7 (wrap64 (t126 + x39))).bind fun t127 => (spec_tkFrom.l0 k x1 (wrap64 (x6 + (wrap64 ((rd x37 x39) * t127)))) x7 x37 x38 (wrap64 (x39 + 1))))) else (none)) else (none)) else (some x6)
def spec_tkFrom.f (k : Nat) (a0 : Int) (a1 : ByteArray) : Option (Int) := if (a1.size : Int) > (wrap64 (Int.tdiv a0 2)) then ((spec_tkWays.f k (wrap64 (a0 - (a1.size : Int)))).bind fun t113 => (if 0 ≤ (wrap64 (Int.tdiv a0 2)) then (if (wrap64 (Int.tdiv a0 2)) ≤ (a1.size : Int) then ((spec_tkSum.f k (a1.extract 0 ((wrap64 (Int.tdiv a0 2)) : Int).toNat)).bind fun t116 => ((spec_tkSum.f k (a1.extract ((wrap64 (Int.tdiv a0 2)) : Int).toNat a1.size)).bind fun t117 => ((spec_tkOf.f t113 (wrap64 (t116 - t117))).bind fun t118 => (some t118)))) else (none)) else (none))) else ((spec_tkWays.f k (wrap64 (Int.tdiv a0 2))).bind fun t119 => ((spec_tkWays.f k (wrap64 ((wrap64 (Int.tdiv a0 2)) - (a1.size : Int)))).bind fun t122 => (spec_tkFrom.l0 k a1 0 t119 t122 (t122.length : Int) 0)))
theorem spec_tkFrom.mono_l : ∀ k, (∀ y0 y1 y2 y3 y4 y5, LeO (spec_tkFrom.l0 k y0 y1 y2 y3 y4 y5) (spec_tkFrom.l0 (k + 1) y0 y1 y2 y3 y4 y5))
  | 0 => fun _ _ _ _ _ _ r h => by simp [spec_tkFrom.l0] at h
  | k + 1 => by
    have ih0 := spec_tkFrom.mono_l k
    · intro y0 y1 y2 y3 y4 y5
      unfold spec_tkFrom.l0
      repeat' first
      | (with_reducible exact ih0 _ _ _ _ _ _)
      | (with_reducible exact spec_tkSum.mono _ _)
      | (with_reducible exact spec_tkWays.mono _ _)
      | (with_reducible exact LeO.refl _)
      | (with_reducible exact LeO.none _)
      | (with_reducible refine LeO.ite ?_ ?_)
      | (with_reducible refine LeO.bind ?_ (fun _ => ?_))
      | exact ih0 _ _ _ _ _ _
      | exact spec_tkSum.mono _ _
      | exact spec_tkWays.mono _ _
      | exact LeO.none _
      | refine LeO.ite ?_ ?_
      | refine LeO.bind ?_ (fun _ => ?_)
theorem spec_tkFrom.mono : ∀ a0 a1 k, LeO (spec_tkFrom.f k a0 a1) (spec_tkFrom.f (k + 1) a0 a1) := by
  intro a0 a1 k
  have ih0 := spec_tkFrom.mono_l k
  unfold spec_tkFrom.f
  repeat' first
      | (with_reducible exact ih0 _ _ _ _ _ _)
      | (with_reducible exact spec_tkSum.mono _ _)
      | (with_reducible exact spec_tkWays.mono _ _)
      | (with_reducible exact LeO.refl _)
      | (with_reducible exact LeO.none _)
      | (with_reducible refine LeO.ite ?_ ?_)
      | (with_reducible refine LeO.bind ?_ (fun _ => ?_))
      | exact ih0 _ _ _ _ _ _
      | exact spec_tkSum.mono _ _
      | exact spec_tkWays.mono _ _
      | exact LeO.none _
      | refine LeO.ite ?_ ?_
      | refine LeO.bind ?_ (fun _ => ?_)
def spec_tkFrom.T3 : Bool × List (List Nat × List Nat) := (true, [([], []), ([], []), ([1], [1]), ([0, 2], [0, 2]), ([3], [3]), ([], []), ([], []), ([5, 6], [5, 6]), ([7, 4], [7]), ([], []), ([], []), ([9, 10], [9, 10]), ([11, 8], [11]), ([8, 12], [8, 12]), ([4, 13, 12], [4, 13]), ([14, 14, 0, 1, 2, 3, 4, 5, 6, 7, 8, 9, 10, 11, 12, 13, 14], [14])])
def spec_tkFrom.B3 : List Nat := [0, 0, 2, 7, 15, 0, 0, 96, 255, 0, 0, 1536, 4095, 8191, 16383, 32767]
theorem spec_tkFrom.tab3 : rtab .any (opsOf Try.f34 3) = spec_tkFrom.T3 := by kernel_rfl
theorem spec_tkFrom.bits3 : waitsOk spec_tkFrom.T3.2 spec_tkFrom.B3 = true := by kernel_rfl
set_option maxHeartbeats 8000000 in
set_option maxRecDepth 100000 in
theorem spec_tkFrom.calls (k : Nat) (a0 : Int) (a1 : ByteArray) (r : Int) (w : World) (h : spec_tkFrom.f k a0 a1 = some r) :
    Calls Try.prog 34 #[.int .i64 a0, .string a1] w fun e w' => e = .returned (.int .i64 r) ∧ Below w.heap.size w w' := by
  have HB := Aside0.mk (Below.refl w.heap.size w)
  have H : (if (a1.size : Int) > (wrap64 (Int.tdiv a0 2)) then ((spec_tkWays.f k (wrap64 (a0 - (a1.size : Int)))).bind fun t113 => (if 0 ≤ (wrap64 (Int.tdiv a0 2)) then (if (wrap64 (Int.tdiv a0 2)) ≤ (a1.size : Int) then ((spec_tkSum.f k (a1.extract 0 ((wrap64 (Int.tdiv a0 2)) : Int).toNat)).bind fun t116 => ((spec_tkSum.f k (a1.extract ((wrap64 (Int.tdiv a0 2)) : Int).toNat a1.size)).bind fun t117 => ((spec_tkOf.f t113 (wrap64 (t116 - t117))).bind fun t118 => (some t118)))) else (none)) else (none))) else ((spec_tkWays.f k (wrap64 (Int.tdiv a0 2))).bind fun t119 => ((spec_tkWays.f k (wrap64 ((wrap64 (Int.tdiv a0 2)) - (a1.size : Int)))).bind fun t122 => (spec_tkFrom.l0 k a1 0 t119 t122 (t122.length : Int) 0)))) = some r := h
  clear h
  by_cases c3 : (a1.size : Int) > (wrap64 (Int.tdiv a0 2))
  · rw [if_pos c3] at H
    have c3b0 : decide ((wrap64 (Int.tdiv a0 2)) < (a1.size : Int)) = true := decide_eq_true c3
    clear c3
    replace H := Option.bind_eq_some_iff.mp H
    obtain ⟨t113, A40, H⟩ := H
    replace H : (if 0 ≤ (wrap64 (Int.tdiv a0 2)) then (if (wrap64 (Int.tdiv a0 2)) ≤ (a1.size : Int) then ((spec_tkSum.f k (a1.extract 0 ((wrap64 (Int.tdiv a0 2)) : Int).toNat)).bind fun t116 => ((spec_tkSum.f k (a1.extract ((wrap64 (Int.tdiv a0 2)) : Int).toNat a1.size)).bind fun t117 => ((spec_tkOf.f t113 (wrap64 (t116 - t117))).bind fun t118 => (some t118)))) else (none)) else (none)) = some r := H
    have A4 := Aside0.mk A40
    clear A40
    obtain ⟨ji5, hji5⟩ : ∃ j_ : Int, (wrap64 (Int.tdiv a0 2)) = j_ := ⟨_, rfl⟩
    replace H : (if 0 ≤ (ji5) then (if (ji5) ≤ (a1.size : Int) then ((spec_tkSum.f k (a1.extract 0 ((ji5) : Int).toNat)).bind fun t116 => ((spec_tkSum.f k (a1.extract ((ji5) : Int).toNat a1.size)).bind fun t117 => ((spec_tkOf.f t113 (wrap64 (t116 - t117))).bind fun t118 => (some t118)))) else (none)) else (none)) = some r := by first | (rw [hji5] at H; exact H) | (simp only [hji5] at H ⊢; exact H)
    (try rw [hji5] at c3b0)
    (try rw [hji5] at A4)
    have hji5w : (IntKind.i64.wrap (Int.tdiv a0 2)) = ji5 := (i64_w _).trans hji5
    by_cases c6 : 0 ≤ (ji5)
    · rw [if_pos c6] at H
      have c6b0 := eq_true c6
      have c6b1 : decide (0 ≤ (ji5)) = true := decide_eq_true c6
      clear c6
      by_cases c7 : (ji5) ≤ (a1.size : Int)
      · rw [if_pos c7] at H
        have c7b0 := eq_true c7
        have c7b1 : decide ((ji5) ≤ (a1.size : Int)) = true := decide_eq_true c7
        clear c7
        replace H := Option.bind_eq_some_iff.mp H
        obtain ⟨t116, A80, H⟩ := H
        replace H : ((spec_tkSum.f k (a1.extract ((ji5) : Int).toNat a1.size)).bind fun t117 => ((spec_tkOf.f t113 (wrap64 (t116 - t117))).bind fun t118 => (some t118))) = some r := H
        have A8 := Aside0.mk A80
        clear A80
        have c9b0 := eq_true (of_decide_eq_true (by first | (with_reducible assumption) | assumption) : 0 ≤ (ji5))
        have c10b0 := eq_true (of_decide_eq_true (by first | (with_reducible assumption) | assumption) : (ji5) ≤ (a1.size : Int))
        replace H := Option.bind_eq_some_iff.mp H
        obtain ⟨t117, A110, H⟩ := H
        replace H : ((spec_tkOf.f t113 (wrap64 (t116 - t117))).bind fun t118 => (some t118)) = some r := H
        have A11 := Aside0.mk A110
        clear A110
        replace H := Option.bind_eq_some_iff.mp H
        obtain ⟨t118, A120, H⟩ := H
        replace H : (some t118) = some r := H
        have A12 := Aside0.mk A120
        clear A120
        obtain rfl := Option.some.inj H
        go_enter Try.func34, Try.ntmps34
        try go_wp2
        have n0_ := Aside0.mk (below_drew1 HB.out)
        clear HB
        have HB := n0_
        clear n0_
        refine start_ (n := 16) (S := fun w' => True) (ds := []) #[false, false, false, false, false, false, false, false, false, false, false, false, false, false, false, false] (by kernel_rfl) rfl rfl trivial (fun hHeld => ?_); refine with_tabW spec_tkFrom.tab3 spec_tkFrom.bits3 (fun HT_ HW_ => ?_)
        generalize w.drew = w13 at HB hHeld ⊢
        refine pure_ (i := 0) (N := some 16) (v := ?_) (a' := ?_) #[true, false, false, false, false, false, false, false, false, false, false, false, false, false, false, false] rfl rfl (any_of HT_.out (by kernel_rfl)) (fun _ _ _ h => h) (Or.inl ⟨by rfl, ?_⟩) ?_ ?_
        rotate_left
        · intro w'
          go_simp
          with_reducible rfl
        rotate_left
        · simp only [Act.put, List.setIfInBounds_toArray, List.set_cons_zero, List.set_cons_succ, i64_w, i32_w]
          rfl
        refine pure_ (i := 1) (N := some 17) (v := ?_) (a' := ?_) #[true, true, false, false, false, false, false, false, false, false, false, false, false, false, false, false] rfl rfl (any_of HT_.out (by kernel_rfl)) (fun _ _ _ h => h) (Or.inl ⟨by rfl, ?_⟩) ?_ ?_
        rotate_left
        · intro w'
          go_simp
          with_reducible rfl
        rotate_left
        · simp only [Act.put, List.setIfInBounds_toArray, List.set_cons_zero, List.set_cons_succ, i64_w, i32_w]
          rfl
        refine pure_ (i := 2) (N := some 18) (v := ?_) (a' := ?_) #[true, true, true, false, false, false, false, false, false, false, false, false, false, false, false, false] rfl rfl (any_of HT_.out (by kernel_rfl)) (fun _ _ _ h => h) (Or.inl ⟨by rfl, ?_⟩) ?_ ?_
        rotate_left
        · intro w'
          go_simp
          with_reducible rfl
        rotate_left
        · simp only [Act.put, List.setIfInBounds_toArray, List.set_cons_zero, List.set_cons_succ, i64_w, i32_w]
          rfl
        refine pure_ (i := 3) (N := some 19) (v := ?_) (a' := ?_) #[true, true, true, true, false, false, false, false, false, false, false, false, false, false, false, false] rfl rfl (any_of HT_.out (by kernel_rfl)) (fun _ _ _ h => h) (Or.inl ⟨by rfl, ?_⟩) ?_ ?_
        rotate_left
        · intro w'
          go_simp
          with_reducible rfl
        rotate_left
        · simp only [Act.put, List.setIfInBounds_toArray, List.set_cons_zero, List.set_cons_succ, i64_w, i32_w]
          rfl
        refine pure_ (i := 5) (N := some 21) (v := ?_) (a' := ?_) #[true, true, true, true, false, true, false, false, false, false, false, false, false, false, false, false] rfl rfl (any_of HT_.out (by kernel_rfl)) (fun _ _ _ h => h) (Or.inl ⟨by rfl, ?_⟩) ?_ ?_
        rotate_left
        · intro w'
          go_simp
          with_reducible rfl
        rotate_left
        · simp only [Act.put, List.setIfInBounds_toArray, List.set_cons_zero, List.set_cons_succ, i64_w, i32_w]
          rfl
        refine pure_ (i := 6) (N := some 22) (v := ?_) (a' := ?_) #[true, true, true, true, false, true, true, false, false, false, false, false, false, false, false, false] rfl rfl (any_of HT_.out (by kernel_rfl)) (fun _ _ _ h => h) (Or.inl ⟨by rfl, ?_⟩) ?_ ?_
        rotate_left
        · intro w'
          go_simp
          with_reducible rfl
        rotate_left
        · simp only [Act.put, List.setIfInBounds_toArray, List.set_cons_zero, List.set_cons_succ, i64_w, i32_w]
          rfl
        refine pure_ (i := 7) (N := some 23) (v := ?_) (a' := ?_) #[true, true, true, true, false, true, true, true, false, false, false, false, false, false, false, false] rfl rfl (any_of HT_.out (by kernel_rfl)) (fun _ _ _ h => h) (Or.inl ⟨by rfl, ?_⟩) ?_ ?_
        rotate_left
        · intro w'
          go_simp
          with_reducible rfl
        rotate_left
        · simp only [Act.put, List.setIfInBounds_toArray, List.set_cons_zero, List.set_cons_succ, i64_w, i32_w]
          rfl
        refine pure_ (i := 9) (N := some 25) (v := ?_) (a' := ?_) #[true, true, true, true, false, true, true, true, false, true, false, false, false, false, false, false] rfl rfl (any_of HT_.out (by kernel_rfl)) (fun _ _ _ h => h) (Or.inl ⟨by rfl, ?_⟩) ?_ ?_
        rotate_left
        · intro w'
          go_simp
          with_reducible rfl
        rotate_left
        · simp only [Act.put, List.setIfInBounds_toArray, List.set_cons_zero, List.set_cons_succ, i64_w, i32_w]
          rfl
        refine pure_ (i := 10) (N := some 26) (v := ?_) (a' := ?_) #[true, true, true, true, false, true, true, true, false, true, true, false, false, false, false, false] rfl rfl (any_of HT_.out (by kernel_rfl)) (fun _ _ _ h => h) (Or.inl ⟨by rfl, ?_⟩) ?_ ?_
        rotate_left
        · intro w'
          go_simp
          with_reducible rfl
        rotate_left
        · simp only [Act.put, List.setIfInBounds_toArray, List.set_cons_zero, List.set_cons_succ, i64_w, i32_w]
          rfl
        refine pure_ (i := 11) (N := some 27) (v := ?_) (a' := ?_) #[true, true, true, true, false, true, true, true, false, true, true, true, false, false, false, false] rfl rfl (any_of HT_.out (by kernel_rfl)) (fun _ _ _ h => h) (Or.inl ⟨by rfl, ?_⟩) ?_ ?_
        rotate_left
        · intro w'
          go_simp
          with_reducible rfl
        rotate_left
        · simp only [Act.put, List.setIfInBounds_toArray, List.set_cons_zero, List.set_cons_succ, i64_w, i32_w]
          rfl
        refine one_ (i := 4) (N := some 20) #[true, true, true, true, true, true, true, true, false, true, true, true, false, false, false, false] rfl rfl (one_of HT_.out (by kernel_rfl)) (by decide) (fun K hK => ?_)
        refine goes_ Try.func37 (by kernel_rfl) rfl #[.int .i64 (wrap64 (a0 - (a1.size : Int)))] (by rfl) rfl rfl (by (try simp only [List.map_toArray, List.map_cons, List.map_nil]); first | done | rfl | (simp only [List.length_drop, List.length_take]; rfl)) ?_
        with_reducible refine (spec_tkWays.calls k (wrap64 (a0 - (a1.size : Int))) t113 _ A4.out).mono ?_
        rintro e w14 ⟨v114, rfl, ho0, hb⟩
        refine ⟨_, rfl, ?_⟩
        have n0_ := Aside0.mk (Kd.R_lower ho0 (below_size (by repeat (first | (with_reducible first | exact HB.out | apply below_alloc | apply pw_below_drewN | apply below_drew1) | exact HB.out))))
        have n1_ := Aside0.mk (below_step (by repeat (first | (with_reducible first | exact HB.out | apply below_alloc | apply pw_below_drewN | apply below_drew1) | exact HB.out)) hb)
        clear HB
        have HO115 := n0_
        have HB := n1_
        clear n0_ n1_
        (try clear hb)
        (try clear hb2)
        (try clear hk)
        (try clear hi)
        (try clear ho0)
        refine hK.out _ _ trivial (fun hHeld => ?_)
        clear hK K
        refine norm_ (a' := ?_) ?_ ?_
        rotate_left
        · show Act.put _ (some 20) _ = _
          simp only [Act.put, List.setIfInBounds_toArray, List.set_cons_zero, List.set_cons_succ, i64_w, i32_w]
          rfl
        refine one_ (i := 8) (N := some 24) #[true, true, true, true, true, true, true, true, true, true, true, true, false, false, false, false] rfl rfl (one_of HT_.out (by kernel_rfl)) (by decide) (fun K hK => ?_)
        refine goes_ Try.func57 (by kernel_rfl) rfl #[.string (a1.extract 0 ((ji5) : Int).toNat)] (by rfl) rfl rfl (by (try simp only [List.map_toArray, List.map_cons, List.map_nil]); first | done | (simp only [hji5]; rfl) | rfl | (simp only [List.length_drop, List.length_take]; rfl)) ?_
        with_reducible refine (spec_tkSum.calls k (a1.extract 0 ((ji5) : Int).toNat) t116 _ A8.out).mono ?_
        rintro e w' ⟨rfl, ⟨nd, rfl⟩⟩
        refine ⟨_, rfl, ?_⟩
        refine hK.out _ _ trivial (fun hHeld => ?_)
        clear hK K
        refine norm_ (a' := ?_) ?_ ?_
        rotate_left
        · show Act.put _ (some 24) _ = _
          simp only [Act.put, List.setIfInBounds_toArray, List.set_cons_zero, List.set_cons_succ, i64_w, i32_w]
          rfl
        refine one_ (i := 12) (N := some 28) #[true, true, true, true, true, true, true, true, true, true, true, true, true, false, false, false] rfl rfl (one_of HT_.out (by kernel_rfl)) (by decide) (fun K hK => ?_)
        refine goes_ Try.func57 (by kernel_rfl) rfl #[.string (a1.extract ((ji5) : Int).toNat a1.size)] (by rfl) rfl rfl (by (try simp only [List.map_toArray, List.map_cons, List.map_nil]); first | done | (simp only [hji5]; rfl) | rfl | (simp only [List.length_drop, List.length_take]; rfl)) ?_
        with_reducible refine (spec_tkSum.calls k (a1.extract ((ji5) : Int).toNat a1.size) t117 _ A11.out).mono ?_
        rintro e w' ⟨rfl, ⟨nd, rfl⟩⟩
        refine ⟨_, rfl, ?_⟩
        obtain ⟨Ao15, co15, eo15⟩ := Kd.R_slice HO115.out
        (first | subst eo15 | (injection eo15 with f1_ f2_ f3_; have f4_ := f1_.symm; have f5_ := f3_.symm; clear f1_ f2_ f3_; subst f4_; subst f5_))
        refine hK.out _ _ trivial (fun hHeld => ?_)
        clear hK K
        refine norm_ (a' := ?_) ?_ ?_
        rotate_left
        · show Act.put _ (some 28) _ = _
          simp only [Act.put, List.setIfInBounds_toArray, List.set_cons_zero, List.set_cons_succ, i64_w, i32_w]
          rfl
        refine pure_ (i := 13) (N := some 29) (v := ?_) (a' := ?_) #[true, true, true, true, true, true, true, true, true, true, true, true, true, true, false, false] rfl rfl (any_of HT_.out (by kernel_rfl)) (fun _ _ _ h => h) (Or.inl ⟨by rfl, ?_⟩) ?_ ?_
        rotate_left
        · intro w'
          go_simp
          with_reducible rfl
        rotate_left
        · simp only [Act.put, List.setIfInBounds_toArray, List.set_cons_zero, List.set_cons_succ, i64_w, i32_w]
          rfl
        refine one_ (i := 14) (N := some 30) #[true, true, true, true, true, true, true, true, true, true, true, true, true, true, true, false] rfl rfl (one_of HT_.out (by kernel_rfl)) (by decide) (fun K hK => ?_)
        refine goes_ Try.func56 (by kernel_rfl) rfl #[.slice Ao15 t113.length co15, .int .i64 (wrap64 (t116 - t117))] (by rfl) rfl rfl (by (try simp only [List.map_toArray, List.map_cons, List.map_nil]); first | done | rfl | (simp only [List.length_drop, List.length_take]; rfl)) ?_
        with_reducible refine (spec_tkOf.calls _ _ t113 (wrap64 (t116 - t117)) t118 _ ?side1 ?side2 A12.out).mono ?_
        (case side1 => repeat (first | exact (Kd.R_reads' HO115.out).2.2 | (with_reducible refine Kd.C_alloc ?_ _) | (with_reducible refine Kd.C_drewN ?_ _) | (with_reducible refine Kd.C_drew ?_)))
        (case side2 => exact (Kd.R_reads' HO115.out).2.1)
        rintro e w' ⟨rfl, ⟨nd, rfl⟩⟩
        refine ⟨_, rfl, ?_⟩
        refine hK.out _ _ trivial (fun hHeld => ?_)
        clear hK K
        refine norm_ (a' := ?_) ?_ ?_
        rotate_left
        · show Act.put _ (some 30) _ = _
          simp only [Act.put, List.setIfInBounds_toArray, List.set_cons_zero, List.set_cons_succ, i64_w, i32_w]
          rfl
        refine pure_ (i := 15) (N := some 4) (v := ?_) (a' := ?_) #[true, true, true, true, true, true, true, true, true, true, true, true, true, true, true, true] rfl rfl (any_of HT_.out (by kernel_rfl)) (fun _ _ _ h => h) (Or.inl ⟨by rfl, ?_⟩) ?_ ?_
        rotate_left
        · intro w'
          go_simp
          with_reducible rfl
        rotate_left
        · simp only [Act.put, List.setIfInBounds_toArray, List.set_cons_zero, List.set_cons_succ, i64_w, i32_w]
          rfl
        refine done_ (done_of HT_.out (by kernel_rfl)) ?_
        try go_wp2
        go_ret
        exact ⟨by first | rfl | (simp [errW_none, errW_some] <;> rfl) | (simp only [← hji5]; first | rfl | (simp [errW_none, errW_some] <;> rfl)) | (simp [*, errW_none, errW_some] <;> rfl), by repeat (first | (with_reducible first | exact HB.out | apply below_alloc | apply pw_below_drewN | apply below_drew1) | exact HB.out)⟩
      · rw [if_neg c7] at H
        exact absurd H (by simp)
    · rw [if_neg c6] at H
      exact absurd H (by simp)
  · rw [if_neg c3] at H
    have c3b0 : decide ((wrap64 (Int.tdiv a0 2)) < (a1.size : Int)) = false := decide_eq_false c3
    clear c3
    replace H := Option.bind_eq_some_iff.mp H
    obtain ⟨t119, A160, H⟩ := H
    replace H : ((spec_tkWays.f k (wrap64 ((wrap64 (Int.tdiv a0 2)) - (a1.size : Int)))).bind fun t122 => (spec_tkFrom.l0 k a1 0 t119 t122 (t122.length : Int) 0)) = some r := H
    have A16 := Aside0.mk A160
    clear A160
    replace H := Option.bind_eq_some_iff.mp H
    obtain ⟨t122, A170, H⟩ := H
    replace H : (spec_tkFrom.l0 k a1 0 t119 t122 (t122.length : Int) 0) = some r := H
    have A17 := Aside0.mk A170
    clear A170
    have H' := Aside0.mk H
    clear H
    go_enter Try.func34, Try.ntmps34
    go_wp2_with (first | ((with_reducible refine gate_callee (f := 37) rfl ?_); refine goesL_ (some 32) rfl rfl Try.func37 (by kernel_rfl) rfl #[.int .i64 (wrap64 (Int.tdiv a0 2))] rfl (by (try simp only [List.map_toArray, List.map_cons, List.map_nil]); first | done | rfl | (simp only [List.length_drop, List.length_take]; rfl)) ?_; (with_reducible refine (spec_tkWays.calls k (wrap64 (Int.tdiv a0 2)) t119 _ A16.out).mono ?_); rintro e w18 ⟨v120, rfl, ho0, hb⟩; refine ⟨_, rfl, ?_⟩; have n0_ := Aside0.mk (Kd.R_lower ho0 (below_size (by repeat (first | (with_reducible first | exact HB.out | apply below_alloc | apply pw_below_drewN | apply below_drew1) | exact HB.out)))); have n1_ := Aside0.mk (below_step (by repeat (first | (with_reducible first | exact HB.out | apply below_alloc | apply pw_below_drewN | apply below_drew1) | exact HB.out)) hb); clear HB; have HO121 := n0_; have HB := n1_; clear n0_ n1_; (try clear hb); (try clear hb2); (try clear hk); (try clear hi); (try clear ho0)) | ((with_reducible refine gate_callee (f := 37) rfl ?_); refine goesL_ (some 37) rfl rfl Try.func37 (by kernel_rfl) rfl #[.int .i64 (wrap64 ((wrap64 (Int.tdiv a0 2)) - (a1.size : Int)))] rfl (by (try simp only [List.map_toArray, List.map_cons, List.map_nil]); first | done | rfl | (simp only [List.length_drop, List.length_take]; rfl)) ?_; (with_reducible refine (spec_tkWays.calls k (wrap64 ((wrap64 (Int.tdiv a0 2)) - (a1.size : Int))) t122 _ A17.out).mono ?_); rintro e w19 ⟨v123, rfl, ho0, hb⟩; refine ⟨_, rfl, ?_⟩; have n0_ := Aside0.mk (Kd.R_elder' (by (with_reducible repeat (first | apply Kd.R_alloc | apply Kd.R_drewN | apply Kd.R_drew)); exact HO121.out) (Kd.R_base ho0) hb); have n1_ := Aside0.mk (Kd.R_lower (Kd.R_new' ho0 (Kd.R_lt (by (with_reducible repeat (first | apply Kd.R_alloc | apply Kd.R_drewN | apply Kd.R_drew)); exact HO121.out))) (below_size (by repeat (first | (with_reducible first | exact HB.out | apply below_alloc | apply pw_below_drewN | apply below_drew1) | exact HB.out)))); have n2_ := Aside0.mk (below_step (by repeat (first | (with_reducible first | exact HB.out | apply below_alloc | apply pw_below_drewN | apply below_drew1) | exact HB.out)) hb); clear HO121; clear HB; have HO121 := n0_; have HO124 := n1_; have HB := n2_; clear n0_ n1_ n2_; (try clear hb); (try clear hb2); (try clear hk); (try clear hi); (try clear ho0); obtain ⟨Ao20, co20, eo20⟩ := Kd.R_slice HO124.out; subst eo20))
    go_loopg [6, 39] k (fun kq v6 v39 w' => ∃ (x6_1 : Int) (x39_1 : Int), v6 = .int .i64 x6_1 ∧ v39 = .int .i64 x39_1 ∧ Aside0 (spec_tkFrom.l0 kq a1 x6_1 t119 t122 (t122.length : Int) x39_1 = some r) ∧ Aside0 (kq ≤ k) ∧ Aside0 (Kd.R (Kd.int .i64) 3 w' w.heap.size (fun k_ => some k_ ≠ ((.slice Ao20 t122.length co20) : Value).ownBlock) v120 t119) ∧ Aside0 (Kd.R (Kd.int .i64) 3 w' w.heap.size (fun k_ => some k_ ≠ (v120 : Value).ownBlock) (.slice Ao20 t122.length co20) t122) ∧ Aside0 (Below w.heap.size w w'))
    case atStart => exact ⟨(0), (0), (by first | rfl | (simp; done) | (simp [*]; done)), (by first | rfl | (simp; done) | (simp [*]; done)), H', ⟨Nat.le_refl _⟩, ⟨by (with_reducible repeat (first | apply Kd.R_alloc | apply Kd.R_drewN | apply Kd.R_drew)); exact Kd.R_mono HO121.out (fun _ hk => hk.2)⟩, ⟨by (with_reducible repeat (first | apply Kd.R_alloc | apply Kd.R_drewN | apply Kd.R_drew)); exact Kd.R_mono HO124.out (fun _ hk => hk.2)⟩, ⟨by repeat (first | (with_reducible first | exact HB.out | apply below_alloc | apply pw_below_drewN | apply below_drew1) | exact HB.out)⟩⟩
    case round =>
      clear H'
      try clear c1
      try clear p2
      try clear c3
      try clear c3b0
      try clear c5
      try clear c6
      try clear c6b0
      try clear c6b1
      try clear p6
      try clear c7
      try clear c7b0
      try clear c7b1
      try clear c9
      try clear c9b0
      try clear c10
      try clear c10b0
      obtain ⟨x6_1, x39_1, rfl, rfl, HA, HK1, HO_7, HO_37, HB⟩ := hrel
      cases gk with
      | zero => exact absurd HA.out (by simp [spec_tkFrom.l0])
      | succ k1 =>
        have H := HA.out
        clear HA
        simp only [spec_tkFrom.l0] at H
        by_cases c21 : x39_1 < (t122.length : Int)
        · rw [if_pos c21] at H
          have c21b0 : decide (x39_1 < (t122.length : Int)) = true := decide_eq_true c21
          clear c21
          by_cases c22 : 0 ≤ x39_1
          · rw [if_pos c22] at H
            have c22b0 : decide (0 ≤ x39_1) = true := decide_eq_true c22
            clear c22
            by_cases c23 : x39_1 < (t122.length : Int)
            · rw [if_pos c23] at H
              have c23b0 : decide (x39_1 < (t122.length : Int)) = true := decide_eq_true c23
              clear c23
              replace H := Option.bind_eq_some_iff.mp H
              obtain ⟨t126, A240, H⟩ := H
              replace H : ((spec_tkOf.f t119 (wrap64 (t126 + x39_1))).bind fun t127 => (spec_tkFrom.l0 k1 a1 (wrap64 (x6_1 + (wrap64 ((rd t122 x39_1) * t127)))) t119 t122 (t122.length : Int) (wrap64 (x39_1 + 1)))) = some r := H
              have A24 := Aside0.mk A240
              clear A240
              replace H := Option.bind_eq_some_iff.mp H
              obtain ⟨t127, A250, H⟩ := H
              replace H : (spec_tkFrom.l0 k1 a1 (wrap64 (x6_1 + (wrap64 ((rd t122 x39_1) * t127)))) t119 t122 (t122.length : Int) (wrap64 (x39_1 + 1))) = some r := H
              have A25 := Aside0.mk A250
              clear A250
              have H' := Aside0.mk H
              clear H
              have p125 : 0 ≤ (x39_1 : Int) := of_decide_eq_true (by first | (with_reducible assumption) | assumption)
              have q125 : x39_1 < (t122.length : Int) := of_decide_eq_true (by first | (with_reducible assumption) | assumption)
              obtain ⟨ad125, e125, hx125_0⟩ := Kd.at_int (Kd.R_reads' HO_37.out).2.2 x39_1 p125 q125
              cases e125
              replace p125 := eq_true p125
              replace q125 := eq_true q125
              go_wp2_with (first | ((with_reducible refine gate_callee (f := 57) rfl ?_); refine goesL_ (some 48) rfl rfl Try.func57 (by kernel_rfl) rfl #[.string a1] rfl (by (try simp only [List.map_toArray, List.map_cons, List.map_nil]); first | done | rfl | (simp only [List.length_drop, List.length_take]; rfl)) ?_; (with_reducible refine (spec_tkSum.calls k1 a1 t126 _ A24.out).mono ?_); rintro e w' ⟨rfl, ⟨nd, rfl⟩⟩; refine ⟨_, rfl, ?_⟩; obtain ⟨Ao26, co26, eo26⟩ := Kd.R_slice HO_7.out; subst eo26) | ((with_reducible refine gate_callee (f := 56) rfl ?_); refine goesL_ (some 51) rfl rfl Try.func56 (by kernel_rfl) rfl #[.slice Ao26 t119.length co26, .int .i64 (wrap64 (t126 + x39_1))] rfl (by (try simp only [List.map_toArray, List.map_cons, List.map_nil]); first | done | rfl | (simp only [List.length_drop, List.length_take]; rfl)) ?_; (with_reducible refine (spec_tkOf.calls _ _ t119 (wrap64 (t126 + x39_1)) t127 _ ?side1 ?side2 A25.out).mono ?_); (case side1 => repeat (first | exact (Kd.R_reads' HO_7.out).2.2 | (with_reducible refine Kd.C_alloc ?_ _) | (with_reducible refine Kd.C_drewN ?_ _) | (with_reducible refine Kd.C_drew ?_))); (case side2 => exact (Kd.R_reads' HO_7.out).2.1); rintro e w' ⟨rfl, ⟨nd, rfl⟩⟩; refine ⟨_, rfl, ?_⟩))
              go_roundg k1
              case measure => have := HK1.out; omega
              case rel => exact ⟨(wrap64 (x6_1 + (wrap64 ((rd t122 x39_1) * t127)))), (wrap64 (x39_1 + 1)), (by first | rfl | (simp; done) | (simp [*]; done)), (by first | rfl | (simp; done) | (simp [*]; done)), H', ⟨by have := HK1.out; omega⟩, ⟨by (with_reducible repeat (first | apply Kd.R_alloc | apply Kd.R_drewN | apply Kd.R_drew)); exact HO_7.out⟩, ⟨by (with_reducible repeat (first | apply Kd.R_alloc | apply Kd.R_drewN | apply Kd.R_drew)); exact HO_37.out⟩, ⟨by repeat (first | (with_reducible first | exact HB.out | apply below_alloc | apply pw_below_drewN | apply below_drew1) | exact HB.out)⟩⟩
            · rw [if_neg c23] at H
              exact absurd H (by simp)
          · rw [if_neg c22] at H
            exact absurd H (by simp)
        · rw [if_neg c21] at H
          have c21b0 : decide (x39_1 < (t122.length : Int)) = false := decide_eq_false c21
          clear c21
          obtain rfl := Option.some.inj H
          go_wp2
          go_ret
          exact ⟨by first | rfl | (simp [errW_none, errW_some] <;> rfl) | (simp [*, errW_none, errW_some] <;> rfl), by repeat (first | (with_reducible first | exact HB.out | apply below_alloc | apply pw_below_drewN | apply below_drew1) | exact HB.out)⟩

/-! ### spec_tkHalves: function 58 -/
def spec_tkHalves.f (k : Nat) (a0 : ByteArray) : Option (Int × Int) := if 0 ≤ (wrap64 ((a0.size : Int) / 2)) then (if (wrap64 ((a0.size : Int) / 2)) ≤ (a0.size : Int) then ((spec_tkSum.f k (a0.extract 0 ((wrap64 ((a0.size : Int) / 2)) : Int).toNat)).bind fun t128 => ((spec_tkSum.f k (a0.extract ((wrap64 ((a0.size : Int) / 2)) : Int).toNat a0.size)).bind fun t129 => (some (t128, t129)))) else (none)) else (none)
theorem spec_tkHalves.mono : ∀ a0 k, LeO (spec_tkHalves.f k a0) (spec_tkHalves.f (k + 1) a0) := by
  intro a0 k
  unfold spec_tkHalves.f
  repeat' first
      | (with_reducible exact spec_tkSum.mono _ _)
      | (with_reducible exact LeO.refl _)
      | (with_reducible exact LeO.none _)
      | (with_reducible refine LeO.ite ?_ ?_)
      | (with_reducible refine LeO.bind ?_ (fun _ => ?_))
      | exact spec_tkSum.mono _ _
      | exact LeO.none _
      | refine LeO.ite ?_ ?_
      | refine LeO.bind ?_ (fun _ => ?_)
set_option maxHeartbeats 8000000 in
set_option maxRecDepth 100000 in
theorem spec_tkHalves.calls (k : Nat) (a0 : ByteArray) (r1 : Int) (r2 : Int) (w : World) (h : spec_tkHalves.f k a0 = some (r1, r2)) :
    Calls Try.prog 58 #[.string a0] w fun e w' => e = .returned (.tuple #[.int .i64 r1, .int .i64 r2]) ∧ Drawn0 w w' := by
  have H : (if 0 ≤ (wrap64 ((a0.size : Int) / 2)) then (if (wrap64 ((a0.size : Int) / 2)) ≤ (a0.size : Int) then ((spec_tkSum.f k (a0.extract 0 ((wrap64 ((a0.size : Int) / 2)) : Int).toNat)).bind fun t128 => ((spec_tkSum.f k (a0.extract ((wrap64 ((a0.size : Int) / 2)) : Int).toNat a0.size)).bind fun t129 => (some (t128, t129)))) else (none)) else (none)) = some (r1, r2) := h
  clear h
  obtain ⟨ji2, hji2⟩ : ∃ j_ : Int, (wrap64 ((a0.size : Int) / 2)) = j_ := ⟨_, rfl⟩
  replace H : (if 0 ≤ (ji2) then (if (ji2) ≤ (a0.size : Int) then ((spec_tkSum.f k (a0.extract 0 ((ji2) : Int).toNat)).bind fun t128 => ((spec_tkSum.f k (a0.extract ((ji2) : Int).toNat a0.size)).bind fun t129 => (some (t128, t129)))) else (none)) else (none)) = some (r1, r2) := by first | (rw [hji2] at H; exact H) | (simp only [hji2] at H ⊢; exact H)
  have hji2w : (IntKind.i64.wrap ((a0.size : Int) / 2)) = ji2 := (i64_w _).trans hji2
  by_cases c3 : 0 ≤ (ji2)
  · rw [if_pos c3] at H
    have c3b0 := eq_true c3
    have c3b1 : decide (0 ≤ (ji2)) = true := decide_eq_true c3
    clear c3
    by_cases c4 : (ji2) ≤ (a0.size : Int)
    · rw [if_pos c4] at H
      have c4b0 := eq_true c4
      have c4b1 : decide ((ji2) ≤ (a0.size : Int)) = true := decide_eq_true c4
      clear c4
      replace H := Option.bind_eq_some_iff.mp H
      obtain ⟨t128, A50, H⟩ := H
      replace H : ((spec_tkSum.f k (a0.extract ((ji2) : Int).toNat a0.size)).bind fun t129 => (some (t128, t129))) = some (r1, r2) := H
      have A5 := Aside0.mk A50
      clear A50
      have c6b0 := eq_true (of_decide_eq_true (by first | (with_reducible assumption) | assumption) : 0 ≤ (ji2))
      have c7b0 := eq_true (of_decide_eq_true (by first | (with_reducible assumption) | assumption) : (ji2) ≤ (a0.size : Int))
      replace H := Option.bind_eq_some_iff.mp H
      obtain ⟨t129, A80, H⟩ := H
      replace H : (some (t128, t129)) = some (r1, r2) := H
      have A8 := Aside0.mk A80
      clear A80
      simp only [Option.some.injEq, Prod.mk.injEq] at H
      obtain ⟨rfl, rfl⟩ := H
      go_enter Try.func58, Try.ntmps58
      go_wp2_with (first | (go_at_call 57; (with_reducible refine (spec_tkSum.calls k (a0.extract 0 ((ji2) : Int).toNat) t128 _ A5.out).mono ?_); rintro e w' ⟨rfl, ⟨nd, rfl⟩⟩; (try first | exact ⟨rfl, _, World.drewN_drewN _ _ _⟩ | exact ⟨rfl, _, Eq.trans (World.drewN_drewN _ _ _) (congrArg (World.drewN _) (Nat.add_assoc _ _ _))⟩)) | (go_at_call 57; (with_reducible refine (spec_tkSum.calls k (a0.extract ((ji2) : Int).toNat a0.size) t129 _ A8.out).mono ?_); rintro e w' ⟨rfl, ⟨nd, rfl⟩⟩; (try first | exact ⟨rfl, _, World.drewN_drewN _ _ _⟩ | exact ⟨rfl, _, Eq.trans (World.drewN_drewN _ _ _) (congrArg (World.drewN _) (Nat.add_assoc _ _ _))⟩)))
      repeat (go_quiet (first | (go_at_call 57; (with_reducible refine (spec_tkSum.calls k (a0.extract 0 ((ji2) : Int).toNat) t128 _ A5.out).mono ?_); rintro e w' ⟨rfl, ⟨nd, rfl⟩⟩; (try first | exact ⟨rfl, _, World.drewN_drewN _ _ _⟩ | exact ⟨rfl, _, Eq.trans (World.drewN_drewN _ _ _) (congrArg (World.drewN _) (Nat.add_assoc _ _ _))⟩)) | (go_at_call 57; (with_reducible refine (spec_tkSum.calls k (a0.extract ((ji2) : Int).toNat a0.size) t129 _ A8.out).mono ?_); rintro e w' ⟨rfl, ⟨nd, rfl⟩⟩; (try first | exact ⟨rfl, _, World.drewN_drewN _ _ _⟩ | exact ⟨rfl, _, Eq.trans (World.drewN_drewN _ _ _) (congrArg (World.drewN _) (Nat.add_assoc _ _ _))⟩))); try go_wp2_with (first | (go_at_call 57; (with_reducible refine (spec_tkSum.calls k (a0.extract 0 ((ji2) : Int).toNat) t128 _ A5.out).mono ?_); rintro e w' ⟨rfl, ⟨nd, rfl⟩⟩; (try first | exact ⟨rfl, _, World.drewN_drewN _ _ _⟩ | exact ⟨rfl, _, Eq.trans (World.drewN_drewN _ _ _) (congrArg (World.drewN _) (Nat.add_assoc _ _ _))⟩)) | (go_at_call 57; (with_reducible refine (spec_tkSum.calls k (a0.extract ((ji2) : Int).toNat a0.size) t129 _ A8.out).mono ?_); rintro e w' ⟨rfl, ⟨nd, rfl⟩⟩; (try first | exact ⟨rfl, _, World.drewN_drewN _ _ _⟩ | exact ⟨rfl, _, Eq.trans (World.drewN_drewN _ _ _) (congrArg (World.drewN _) (Nat.add_assoc _ _ _))⟩))))
      go_ret2
      exact ⟨by first | rfl | (simp; done) | (simp only [← hji2] <;> (first | rfl | simp)) | (simp [*]; done), by repeat (first | exact Drawn0.refl _ | apply Drawn0.step)⟩
    · rw [if_neg c4] at H
      exact absurd H (by simp)
  · rw [if_neg c3] at H
    exact absurd H (by simp)

/-! ### spec_tkLucky: function 40 -/
def spec_tkLucky.f (k : Nat) (a0 : ByteArray) : Option (Bool) := (spec_tkHalves.f k a0).bind fun bt130 => (some (bt130.1 == bt130.2))
theorem spec_tkLucky.mono : ∀ a0 k, LeO (spec_tkLucky.f k a0) (spec_tkLucky.f (k + 1) a0) := by
  intro a0 k
  unfold spec_tkLucky.f
  repeat' first
      | (with_reducible exact spec_tkHalves.mono _ _)
      | (with_reducible exact LeO.refl _)
      | (with_reducible exact LeO.none _)
      | (with_reducible refine LeO.ite ?_ ?_)
      | (with_reducible refine LeO.bind ?_ (fun _ => ?_))
      | exact spec_tkHalves.mono _ _
      | exact LeO.none _
      | refine LeO.ite ?_ ?_
      | refine LeO.bind ?_ (fun _ => ?_)
set_option maxHeartbeats 8000000 in
set_option maxRecDepth 100000 in
theorem spec_tkLucky.calls (k : Nat) (a0 : ByteArray) (r : Bool) (w : World) (h : spec_tkLucky.f k a0 = some r) :
    Calls Try.prog 40 #[.string a0] w fun e w' => e = .returned (.bool r) ∧ Drawn0 w w' := by
  have H : ((spec_tkHalves.f k a0).bind fun bt130 => (some (bt130.1 == bt130.2))) = some r := h
  clear h
  replace H := Option.bind_eq_some_iff.mp H
  obtain ⟨⟨t130, t131⟩, A20, H⟩ := H
  replace H : (some (t130 == t131)) = some r := H
  have A2 := Aside0.mk A20
  clear A20
  obtain rfl := Option.some.inj H
  go_enter Try.func40, Try.ntmps40
  go_wp2_with (first | ((with_reducible refine gate_callee (f := 58) rfl ?_); refine goesL_ (some 7) rfl rfl Try.func58 (by kernel_rfl) rfl #[.string a0] rfl (by (try simp only [List.map_toArray, List.map_cons, List.map_nil]); first | done | rfl | (simp only [List.length_drop, List.length_take]; rfl)) ?_; (with_reducible refine (spec_tkHalves.calls k a0 t130 t131 _ A2.out).mono ?_); rintro e w' ⟨rfl, ⟨nd, rfl⟩⟩; refine ⟨_, rfl, ?_⟩))
  go_ret
  exact ⟨by first | rfl | (simp; done) | (simp [*]; done), by repeat (first | exact Drawn0.refl _ | apply Drawn0.step)⟩

/-! ### spec_tkRank: function 46 -/
-- --making --rounds
def World.setIter_ (W : World) (a : Nat) (s : ByteArray) (pos : Nat) : World := { W with heap := W.heap.setIfInBounds a (.stringIter s pos) }
theorem iter_lt_ {W : World} {a : Nat} {s : ByteArray} {pos : Nat} (h : W.heap[a]? = some (.stringIter s pos)) : a < W.heap.size := by
  rcases Nat.lt_or_ge a W.heap.size with h1 | h1
  · exact h1
  · rw [Array.getElem?_eq_none h1] at h; cases h
theorem run_next_at_ {P : Program} (W : World) (a : Nat) (s : ByteArray) (i : Int) (ty : TypeId) (hb : W.heap[a]? = some (.stringIter s i.toNat)) (h0 : 0 ≤ i) (h : i < (s.size : Int)) (ha : bt s i < 128) :
    (Instr.next (.pointer (some ⟨a, 0, none⟩)) true ty).run P W = .ok (.tuple #[.bool true, .int .i64 i, .int .i32 (bt s i)]) (World.setIter_ W a s (i + 1).toNat) := by
  have hlt := iter_lt_ hb
  have hn : i.toNat < s.size := by omega
  have hbt := bt_at s i hn
  have hx : (s[i.toNat]'hn).toNat < 128 := by omega
  have e1 : ((i.toNat : Nat) : Int) = i := by omega
  have e2 : (i + 1).toNat = i.toNat + 1 := by omega
  simp only [Instr.next, getObj, setObj, Sem.run_bind, Sem.run, hb, Result.andThen, hn, if_true, decode_ascii s i.toNat hn hx]
  simp [goInt, Sem.run, hb, World.setIter_, e1, e2, hbt, hlt]
theorem run_next_stop_ {P : Program} (W : World) (a : Nat) (s : ByteArray) (i : Int) (ty : TypeId) (hb : W.heap[a]? = some (.stringIter s i.toNat)) (h : ¬ i < (s.size : Int)) :
    (Instr.next (.pointer (some ⟨a, 0, none⟩)) true ty).run P W = .ok (.tuple #[.bool false]) W := by
  have hn : ¬ i.toNat < s.size := by omega
  simp [Instr.next, getObj, Sem.run, hb, hn]
theorem below_iter_ {B a : Nat} {w W : World} {s : ByteArray} {p : Nat} (h : Below B w W) (ha : B ≤ a) : Below B w (World.setIter_ W a s p) :=
  h.trans ⟨rfl, rfl, rfl, by simp [World.setIter_], fun k hk => by simp only [World.setIter_]; rw [Array.getElem?_setIfInBounds_ne (by omega)]⟩
theorem iter_set_ {W : World} {a : Nat} {s : ByteArray} {p : Nat} (h : a < W.heap.size) : (World.setIter_ W a s p).heap[a]? = some (.stringIter s p) := by
  simp [World.setIter_, h]
theorem iter_below_ {W W' : World} {a : Nat} {s : ByteArray} {p : Nat} (h : W.heap[a]? = some (.stringIter s p)) (hb : Below W.heap.size W W') : W'.heap[a]? = some (.stringIter s p) :=
  (hb.block a (iter_lt_ h)).trans h
theorem encode_ascii_ (d : Int) (h0 : 0 ≤ d) (h1 : d < 128) : Utf8.encode d = strOfNums [d] := by
  have hv : Utf8.valid d = true := by unfold Utf8.valid; simp; omega
  have hc : d.toNat < 128 := by omega
  simp [Utf8.encode, hv, hc, strOfNums]
mutual
def spec_tkRank.l0 : Nat → ByteArray → Int → Int → Option Int
  | 0, _, _, _ => none
  | k + 1, s, x, i => if 0 ≤ i then (if i < (s.size : Int) then (if bt s i < 128 then spec_tkRank.l1 k s x i 48 else none) else some x) else none
def spec_tkRank.l1 : Nat → ByteArray → Int → Int → Int → Option Int
  | 0, _, _, _, _ => none
  | k + 1, s, x, i, d => if 0 ≤ i then (if i < (s.size : Int) then (if d < bt s i then (if 0 ≤ d then (if d < 128 then (spec_tkFrom.f k (s.size : Int) ((s.extract 0 i.toNat) ++ strOfNums [d])).bind fun t => spec_tkRank.l1 k s (wrap64 (x + t)) i ((d + 1) % 256) else none) else none) else spec_tkRank.l0 k s x (i + 1)) else none) else none
end
def spec_tkRank.f (k : Nat) (a0 : ByteArray) : Option Int := if a0.size ≤ 1048576 then spec_tkRank.l0 k a0 0 0 else none
theorem spec_tkRank.mono_l : ∀ k, (∀ y0 y1 y2, LeO (spec_tkRank.l0 k y0 y1 y2) (spec_tkRank.l0 (k + 1) y0 y1 y2)) ∧ (∀ y0 y1 y2 y3, LeO (spec_tkRank.l1 k y0 y1 y2 y3) (spec_tkRank.l1 (k + 1) y0 y1 y2 y3))
  | 0 => ⟨fun _ _ _ r h => by simp [spec_tkRank.l0] at h, fun _ _ _ _ r h => by simp [spec_tkRank.l1] at h⟩
  | k + 1 => by
    obtain ⟨ih0, ih1⟩ := spec_tkRank.mono_l k
    refine ⟨?_, ?_⟩
    · intro y0 y1 y2
      unfold spec_tkRank.l0
      repeat' first
      | (with_reducible exact ih1 _ _ _ _)
      | (with_reducible exact LeO.refl _)
      | (with_reducible exact LeO.none _)
      | (with_reducible refine LeO.ite ?_ ?_)
      | (with_reducible refine LeO.bind ?_ (fun _ => ?_))
    · intro y0 y1 y2 y3
      unfold spec_tkRank.l1
      repeat' first
      | (with_reducible exact ih1 _ _ _ _)
      | (with_reducible exact ih0 _ _ _)
      | (with_reducible exact spec_tkFrom.mono _ _ _)
      | (with_reducible exact LeO.refl _)
      | (with_reducible exact LeO.none _)
      | (with_reducible refine LeO.ite ?_ ?_)
      | (with_reducible refine LeO.bind ?_ (fun _ => ?_))
theorem spec_tkRank.mono : ∀ a0 k, LeO (spec_tkRank.f k a0) (spec_tkRank.f (k + 1) a0) := by
  intro a0 k
  unfold spec_tkRank.f
  exact LeO.ite ((spec_tkRank.mono_l k).1 _ _ _) (LeO.refl _)
set_option maxHeartbeats 8000000 in
set_option maxRecDepth 100000 in
theorem spec_tkRank.calls (k : Nat) (a0 : ByteArray) (r : Int) (w : World) (h : spec_tkRank.f k a0 = some r) :
    Calls Try.prog 46 #[.string a0] w fun e w' => e = .returned (.int .i64 r) ∧ Below w.heap.size w w' := by
  unfold spec_tkRank.f at h
  by_cases hz : a0.size ≤ 1048576
  case neg => rw [if_neg hz] at h; cases h
  rw [if_pos hz] at h
  have H' := Aside0.mk h
  clear h
  go_enter Try.func46, Try.ntmps46
  go_wp2
  go_loopg [3] k (fun kq v3 w' => ∃ (x i : Int), v3 = .int .i64 x ∧ Aside0 (spec_tkRank.l0 kq a0 x i = some r) ∧ Aside0 (kq ≤ k) ∧ Aside0 (w'.heap[w.heap.size]? = some (.stringIter a0 i.toNat)) ∧ Aside0 (Below w.heap.size w w'))
  case atStart => exact ⟨0, 0, rfl, H', ⟨Nat.le_refl _⟩, ⟨World.iter_heap w a0 0⟩, ⟨(Below.refl _ _).alloc (Nat.le_refl _) _⟩⟩
  case round =>
    clear H'
    obtain ⟨x, i, rfl, HA, HK1, HI, HB⟩ := hrel
    cases gk with
    | zero => exact absurd HA.out (by simp [spec_tkRank.l0])
    | succ k1 =>
      have H := HA.out
      clear HA
      simp only [spec_tkRank.l0] at H
      by_cases c0 : 0 ≤ i
      case neg => rw [if_neg c0] at H; cases H
      rw [if_pos c0] at H
      by_cases c : i < (a0.size : Int)
      · rw [if_pos c] at H
        by_cases c1 : bt a0 i < 128
        case neg => rw [if_neg c1] at H; cases H
        rw [if_pos c1] at H
        have H' := Aside0.mk H
        clear H
        have hnx : ∀ ty, (Instr.next (.pointer (some ⟨w.heap.size, 0, none⟩)) true ty).run Try.prog wr = _ := fun ty => run_next_at_ wr w.heap.size a0 i ty HI.out c0 c c1
        have HC := Aside0.mk c
        have HC0 := Aside0.mk c0
        clear c c0 c1
        go_wp2
        clear hnx
        go_loopg [3, 5] k1 (fun kq v3 v5 w' => ∃ (x2 d : Int), v3 = .int .i64 x2 ∧ v5 = .int .u8 d ∧ Aside0 (spec_tkRank.l1 kq a0 x2 i d = some r) ∧ Aside0 (kq ≤ k1) ∧ Aside0 (w'.heap[w.heap.size]? = some (.stringIter a0 (i + 1).toNat)) ∧ Aside0 (Below w.heap.size w w'))
        case atStart => exact ⟨x, 48, rfl, rfl, H', ⟨Nat.le_refl _⟩, ⟨iter_set_ (iter_lt_ HI.out)⟩, ⟨below_iter_ HB.out (Nat.le_refl _)⟩⟩
        case round =>
          clear H' HI HB
          obtain ⟨x2, d, rfl, rfl, HA, HK2, HI, HB⟩ := hrel
          cases gk with
          | zero => exact absurd HA.out (by simp [spec_tkRank.l1])
          | succ k2 =>
            have H := HA.out
            clear HA
            simp only [spec_tkRank.l1] at H
            rw [if_pos HC0.out, if_pos HC.out] at H
            have p5 := eq_true HC0.out
            have q5 := eq_true HC.out
            have hx5 := bt_at a0 i
            by_cases c6 : d < bt a0 i
            · rw [if_pos c6] at H
              have c6b0 : decide (d < bt a0 i) = true := decide_eq_true c6
              clear c6
              by_cases d0 : 0 ≤ d
              case neg => rw [if_neg d0] at H; cases H
              rw [if_pos d0] at H
              by_cases d1 : d < 128
              case neg => rw [if_neg d1] at H; cases H
              rw [if_pos d1] at H
              replace H := Option.bind_eq_some_iff.mp H
              obtain ⟨t, A10, H⟩ := H
              have H' := Aside0.mk H
              clear H
              obtain ⟨z, hz_⟩ : ∃ z : ByteArray, z = strOfNums [d] := ⟨_, rfl⟩
              have he : Utf8.encode d = z := (encode_ascii_ d d0 d1).trans hz_.symm
              rw [← hz_] at A10
              have A1 := Aside0.mk A10
              clear A10
              have q8 := eq_true (Int.le_of_lt HC.out)
              have hzs : z.size = 1 := by rw [hz_]; rfl
              have hes := @ByteArray.size_extract a0 0 i.toNat
              have hz2 : (9223372036854775807 < (a0.extract 0 i.toNat).size + z.size) = False := eq_false (by omega)
              have hz3 : (9223372036854775807 < i.toNat + z.size) = False := eq_false (by have := HC.out; omega)
              clear hzs hz_ hes
              have HLT := Aside0.mk (iter_lt_ HI.out)
              go_wp2_with (first | ((with_reducible refine gate_callee (f := 34) rfl ?_); refine goesL_ (some 28) rfl rfl Try.func34 (by kernel_rfl) rfl #[.int .i64 (a0.size : Int), .string ((a0.extract 0 i.toNat) ++ z)] rfl (by (try simp only [List.map_toArray, List.map_cons, List.map_nil]); first | done | rfl | (simp only [List.length_drop, List.length_take]; rfl)) ?_; (with_reducible refine (spec_tkFrom.calls k2 (a0.size : Int) ((a0.extract 0 i.toNat) ++ z) t _ A1.out).mono ?_); rintro e w15 ⟨rfl, hb⟩; refine ⟨_, rfl, ?_⟩; have HB2 := Aside0.mk (below_step HB.out hb); have HI2 := Aside0.mk (iter_below_ HI.out hb); clear hb))
              go_roundg k2
              case measure => have := HK1.out; have := HK2.out; omega
              case rel => exact ⟨wrap64 (x2 + t), (d + 1) % 256, (by first | rfl | (simp; done) | (simp [*]; done)), (by first | rfl | (simp; done) | (simp; omega)), H', ⟨by have := HK1.out; have := HK2.out; omega⟩, HI2, HB2⟩
            · rw [if_neg c6] at H
              have c6b0 : decide (d < bt a0 i) = false := decide_eq_false c6
              clear c6
              have H' := Aside0.mk H
              clear H
              go_wp2
              go_roundg k2
              case measure => have := HK1.out; have := HK2.out; omega
              case rel => exact ⟨x2, i + 1, rfl, H', ⟨by have := HK1.out; have := HK2.out; omega⟩, HI, HB⟩
      · rw [if_neg c] at H
        obtain rfl := Option.some.inj H
        have hnx : ∀ ty, (Instr.next (.pointer (some ⟨w.heap.size, 0, none⟩)) true ty).run Try.prog wr = _ := fun ty => run_next_stop_ wr w.heap.size a0 i ty HI.out c
        clear c c0 H
        go_wp2
        go_ret
        exact ⟨by first | rfl | (simp; done), HB.out⟩

end Go.Proofs.Ytfcckbkmkpinbaa.PFnExactGapsAround
