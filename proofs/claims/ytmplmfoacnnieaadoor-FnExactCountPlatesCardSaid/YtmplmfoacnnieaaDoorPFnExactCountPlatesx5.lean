-- Laid by a program of this session (wip/myprint.py) out of the translation; some contracts in it are the session's own.
import Derived.Test.YtmplmfoacnnieaaDoorPFnExactCountPlatesx0
import Derived.Test.YtmplmfoacnnieaaDoorPFnExactCountPlatesx2
import Derived.Test.YtmplmfoacnnieaaDoorPFnExactCountPlatesx3
namespace Go.Proofs.YtmplmfoacnnieaaDoor.PFnExactCountPlates
open Go.RowKit Go.Proofs.YtmplmfoacnnieaaDoorW.PrintWords Go.Proofs.YtmplmfoacnnieaaDoorW.PrintLast Go.Proofs.YtmplmfoacnnieaaDoorW.PrintMore
attribute [local go_sem] max2_int min2_int max_two min_two max_three min_three max_four min_four   -- for this text's walks alone
set_option linter.unusedVariables false
set_option linter.unusedSimpArgs false

/-! ### impl_Scheme_wordsIn: function 57 -/
def impl_Scheme_wordsIn.l0 : Nat → ByteArray → List Int → List ByteArray → Int → Int → Option (List Int)
  | 0, _, _, _, _, _ => none
  | k + 1, x1, x5, x10, x11, x12 => if x12 < x11 then (if 0 ≤ x12 then (if x12 < (x10.length : Int) then ((strings_Contains.f x1 (rdOf ByteArray.empty x10 x12)).bind fun t159 => (if t159 = true then (if x5.length < 17592186044416 then (impl_Scheme_wordsIn.l0 k x1 (x5 ++ [x12]) x10 x11 (wrap64 (x12 + 1))) else (none)) else (impl_Scheme_wordsIn.l0 k x1 x5 x10 x11 (wrap64 (x12 + 1))))) else (none)) else (none)) else (some x5)
def impl_Scheme_wordsIn.f (k : Nat) (a0_0 : ByteArray) (a0_1 : ByteArray) (l0_2 : List ByteArray) (a1 : ByteArray) : Option (List Int) := impl_Scheme_wordsIn.l0 k a1 (([] : List Int)) l0_2 (l0_2.length : Int) 0
theorem impl_Scheme_wordsIn.mono_l : ∀ k, (∀ y0 y1 y2 y3 y4, LeO (impl_Scheme_wordsIn.l0 k y0 y1 y2 y3 y4) (impl_Scheme_wordsIn.l0 (k + 1) y0 y1 y2 y3 y4))
  | 0 => fun _ _ _ _ _ r h => by simp [impl_Scheme_wordsIn.l0] at h
  | k + 1 => by
    have ih0 := impl_Scheme_wordsIn.mono_l k
    · intro y0 y1 y2 y3 y4
      unfold impl_Scheme_wordsIn.l0
      repeat' first
      | (with_reducible exact ih0 _ _ _ _ _)
      | (with_reducible exact LeO.refl _)
      | (with_reducible exact LeO.none _)
      | (with_reducible refine LeO.ite ?_ ?_)
      | (with_reducible refine LeO.bind ?_ (fun _ => ?_))
      | exact ih0 _ _ _ _ _
      | exact LeO.none _
      | refine LeO.ite ?_ ?_
      | refine LeO.bind ?_ (fun _ => ?_)
theorem impl_Scheme_wordsIn.mono : ∀ a0 a1 a2 a3 k, LeO (impl_Scheme_wordsIn.f k a0 a1 a2 a3) (impl_Scheme_wordsIn.f (k + 1) a0 a1 a2 a3) := by
  intro a0 a1 a2 a3 k
  have ih0 := impl_Scheme_wordsIn.mono_l k
  unfold impl_Scheme_wordsIn.f
  repeat' first
      | (with_reducible exact ih0 _ _ _ _ _)
      | (with_reducible exact LeO.refl _)
      | (with_reducible exact LeO.none _)
      | (with_reducible refine LeO.ite ?_ ?_)
      | (with_reducible refine LeO.bind ?_ (fun _ => ?_))
      | exact ih0 _ _ _ _ _
      | exact LeO.none _
      | refine LeO.ite ?_ ?_
      | refine LeO.bind ?_ (fun _ => ?_)
set_option maxHeartbeats 8000000 in
set_option maxRecDepth 100000 in
theorem impl_Scheme_wordsIn.calls (k : Nat) (a0_0 : ByteArray) (a0_1 : ByteArray) (A0_2 : Option Addr) (c0_2 : Nat) (l0_2 : List ByteArray) (a1 : ByteArray) (r : List Int) (w : World) (hr0_2 : Kd.C Kd.string w A0_2 l0_2.length l0_2) (hc0_2 : l0_2.length ≤ c0_2) (h : impl_Scheme_wordsIn.f k a0_0 a0_1 l0_2 a1 = some r) (henv : EnvT w) :
    Calls Tryd.prog 57 #[.agg #[.string a0_0, .string a0_1, .slice A0_2 l0_2.length c0_2], .string a1] w fun e w' => ∃ v0_ : Value, e = .returned (v0_) ∧ Kd.R (Kd.int .i64) 3 w' w.heap.size (fun _ => True) v0_ r ∧ Below w.heap.size w w' := by
  have HENV := Aside0.mk henv
  clear henv
  have hu28 := Tryd.underlying28
  have HR0_2 := Aside0.mk hr0_2
  have HC0_2 := Aside0.mk hc0_2
  clear hr0_2 hc0_2
  have HB := Aside0.mk (Below.refl w.heap.size w)
  have H : (impl_Scheme_wordsIn.l0 k a1 (([] : List Int)) l0_2 (l0_2.length : Int) 0) = some r := h
  clear h
  obtain ⟨y155, hy155⟩ : ∃ y_ : List Int, y_ = (([] : List Int)) := ⟨_, rfl⟩
  replace H : (impl_Scheme_wordsIn.l0 k a1 y155 l0_2 (l0_2.length : Int) 0) = some r := by first | (rw [hy155]; with_reducible exact H) | (have H2_ := (Option.bind_some _ _).symm.trans H; rw [hy155]; with_reducible exact H2_) | (have H2_ := (Option.bind_some _ _).symm.trans H; with_reducible exact H2_) | with_reducible exact H | (rw [hy155]; exact H) | exact H
  have Ny155 := Aside0.mk hy155
  clear hy155
  have H' := Aside0.mk H
  clear H
  go_enter Tryd.func57, Tryd.ntmps57
  go_wp2_with (first | ((with_reducible refine gate_dst (N := 2) rfl ?_); refine box_event ?hg (N := 2) ?hd (cs := #[.string a0_0, .string a0_1, .slice A0_2 l0_2.length c0_2]) (t := 28) ?hr ?_; (case hd => rfl); (case hg => rfl); (case hr => first | (go_simp; done) | (go_simp; rfl)); intro gb154 hg w3 hbox hb; have n0_ := Aside0.mk (below_step (by repeat (first | (with_reducible first | exact HB.out | apply below_alloc | apply pw_below_drewN | apply below_drew1) | exact HB.out)) hb); have n1_ := Aside0.mk (hbox); have n2_ := Aside0.mk ((by rw [hg]; exact (below_size (by repeat (first | (with_reducible first | exact HB.out | apply below_alloc | apply pw_below_drewN | apply below_drew1) | exact HB.out))) : w.heap.size ≤ gb154)); have n3_ := Aside0.mk ((by rw [hg]; exact (below_size (by repeat (first | (with_reducible first | exact HB.out | apply below_alloc | apply pw_below_drewN | apply below_drew1) | exact HB.out))) : w.heap.size ≤ gb154)); clear HB; have HB := n0_; have BK154 := n1_; have GW154 := n2_; have GE154 := n3_; clear n0_ n1_ n2_ n3_; clear hb hbox hg) | ((with_reducible refine gate_dst (N := 8) rfl ?_); refine Kd.R_lit (Kd.int .i64) _ 3 ?hg (N := 8) ?hd (xs := ([] : List Int)) (inner := []) (ok := fun _ => True) (okp := fun _ => True) ?hr ?hp (fun _ hk => hk) trivial (Below.refl _ _) (Nat.le_refl _) (by simp) ?_; (case hd => rfl); (case hg => rfl); (case hr => first | (go_simp; done) | (go_simp; rfl)); (case hp => exact (Reps.none _ _)); intro v156 w4 ho5 hb hg_ hnew_; clear hg_ hnew_; (first | rw [← Ny155.out] at ho5 | (simp only [Int.reduceToNat] at ho5; rw [← Ny155.out] at ho5)); have n0_ := Aside0.mk (Kd.R_lower ho5 (below_size (by repeat (first | (with_reducible first | exact HB.out | apply below_alloc | apply pw_below_drewN | apply below_drew1 | refine below_set ?_ GE154.out) | exact HB.out)))); have n1_ := Aside0.mk (blk_below (g := gb154) (o := .cells #[.string a0_0, .string a0_1, .slice A0_2 l0_2.length c0_2] 28 (0, 0)) (by (with_reducible repeat (first | refine blk_drewN ?_ _ | refine blk_drew ?_ | refine blk_alloc ?_ _)); exact BK154.out) hb); have n2_ := Aside0.mk (below_step (by repeat (first | (with_reducible first | exact HB.out | apply below_alloc | apply pw_below_drewN | apply below_drew1 | refine below_set ?_ GE154.out) | exact HB.out)) hb); clear BK154; clear HB; have HO157 := n0_; have BK154 := n1_; have HB := n2_; clear n0_ n1_ n2_; clear hb ho5; have hcz6_0 : w4.cell? ⟨gb154, 0, none⟩ = some (.string a0_0) := (blk_cell BK154.out 0).trans rfl; have hcz6_1 : w4.cell? ⟨gb154, 1, none⟩ = some (.string a0_1) := (blk_cell BK154.out 1).trans rfl; have hcz6_2 : w4.cell? ⟨gb154, 2, none⟩ = some (.slice A0_2 l0_2.length c0_2) := (blk_cell BK154.out 2).trans rfl; have hfz6_0 := blk_frozen BK154.out 0; have hfz6_1 := blk_frozen BK154.out 1; have hfz6_2 := blk_frozen BK154.out 2))
  go_loopg [5, 12] k (fun kq v5 v12 w' => ∃ (x5_1 : List Int) (x12_1 : Int), v12 = .int .i64 x12_1 ∧ Aside0 (impl_Scheme_wordsIn.l0 kq a1 x5_1 l0_2 (l0_2.length : Int) x12_1 = some r) ∧ Aside0 (kq ≤ k) ∧ Aside0 (Kd.R (Kd.int .i64) 3 w' w.heap.size (fun _ => True) v5 x5_1) ∧ Aside0 (w'.heap[gb154]? = some (.cells #[.string a0_0, .string a0_1, (.slice A0_2 l0_2.length c0_2)] 28 (0, 0))) ∧ Aside0 (Below w.heap.size w w'))
  case atStart => exact ⟨(y155), (0), (by first | rfl | (simp; done) | (simp [*]; done)), H', ⟨Nat.le_refl _⟩, ⟨by (with_reducible repeat (first | apply Kd.R_alloc | apply Kd.R_drewN | apply Kd.R_drew)); exact HO157.out⟩, ⟨by (with_reducible repeat (first | refine blk_drewN ?_ _ | refine blk_drew ?_ | refine blk_alloc ?_ _)); exact BK154.out⟩, ⟨by repeat (first | (with_reducible first | exact HB.out | apply below_alloc | apply pw_below_drewN | apply below_drew1 | refine below_set ?_ GE154.out) | exact HB.out)⟩⟩
  case round =>
    clear H'
    try clear p2
    try clear c5
    try clear hcz6_0
    try clear hcz6_1
    try clear hcz6_2
    try clear hfz6_0
    try clear hfz6_1
    try clear hfz6_2
    obtain ⟨x5_1, x12_1, rfl, HA, HK1, HO_5, BK154, HB⟩ := hrel
    cases gk with
    | zero => exact absurd HA.out (by simp [impl_Scheme_wordsIn.l0])
    | succ k1 =>
      have H := HA.out
      clear HA
      simp only [impl_Scheme_wordsIn.l0] at H
      by_cases c7 : x12_1 < (l0_2.length : Int)
      · rw [if_pos c7] at H
        have c7b0 : decide (x12_1 < (l0_2.length : Int)) = true := decide_eq_true c7
        clear c7
        by_cases c8 : 0 ≤ x12_1
        · rw [if_pos c8] at H
          have c8b0 : decide (0 ≤ x12_1) = true := decide_eq_true c8
          clear c8
          by_cases c9 : x12_1 < (l0_2.length : Int)
          · rw [if_pos c9] at H
            have c9b0 : decide (x12_1 < (l0_2.length : Int)) = true := decide_eq_true c9
            clear c9
            replace H := Option.bind_eq_some_iff.mp H
            obtain ⟨t159, A100, H⟩ := H
            replace H : (if t159 = true then (if x5_1.length < 17592186044416 then (impl_Scheme_wordsIn.l0 k1 a1 (x5_1 ++ [x12_1]) l0_2 (l0_2.length : Int) (wrap64 (x12_1 + 1))) else (none)) else (impl_Scheme_wordsIn.l0 k1 a1 x5_1 l0_2 (l0_2.length : Int) (wrap64 (x12_1 + 1)))) = some r := H
            have A10 := Aside0.mk A100
            clear A100
            by_cases c11 : t159 = true
            · subst c11
              have H1 : (if x5_1.length < 17592186044416 then (impl_Scheme_wordsIn.l0 k1 a1 (x5_1 ++ [x12_1]) l0_2 (l0_2.length : Int) (wrap64 (x12_1 + 1))) else (none)) = some r := by rw [if_pos rfl] at H; exact H
              clear H
              have H := H1
              clear H1
              by_cases c12 : x5_1.length < 17592186044416
              · rw [if_pos c12] at H
                have LMc12 := Aside0.mk c12
                clear c12
                obtain ⟨y160, hy160⟩ : ∃ y_ : List Int, y_ = (x5_1 ++ [x12_1]) := ⟨_, rfl⟩
                replace H : (impl_Scheme_wordsIn.l0 k1 a1 y160 l0_2 (l0_2.length : Int) (wrap64 (x12_1 + 1))) = some r := by first | (rw [hy160]; with_reducible exact H) | (have H2_ := (Option.bind_some _ _).symm.trans H; rw [hy160]; with_reducible exact H2_) | (have H2_ := (Option.bind_some _ _).symm.trans H; with_reducible exact H2_) | with_reducible exact H | (rw [hy160]; exact H) | exact H
                have Ny160 := Aside0.mk hy160
                clear hy160
                have H' := Aside0.mk H
                clear H
                have p158 : 0 ≤ (x12_1 : Int) := of_decide_eq_true (by first | (with_reducible assumption) | assumption)
                have q158 : x12_1 < (l0_2.length : Int) := of_decide_eq_true (by first | (with_reducible assumption) | assumption)
                obtain ⟨ad158, e158, hx158_0⟩ := Kd.at_string HR0_2.out x12_1 p158 q158
                cases e158
                replace hx158_0 := (HB.out.cell (World.block_lt_of_cell? w _ hx158_0)).trans hx158_0
                replace p158 := eq_true p158
                replace q158 := eq_true q158
                go_wp2_with (first | ((with_reducible refine gate_callee (f := 81) rfl ?_); refine goesL_ (some 19) rfl rfl Tryd.func81 (by kernel_rfl) rfl #[.string a1, .string (rdOf ByteArray.empty l0_2 x12_1)] rfl (by (try simp only [List.map_toArray, List.map_cons, List.map_nil]); first | done | rfl | (simp only [List.length_drop, List.length_take]; rfl)) ?_; (with_reducible refine (strings_Contains.calls a1 (rdOf ByteArray.empty l0_2 x12_1) true _ A10.out (env_below HENV.out (by repeat (first | (with_reducible first | exact HB.out | apply below_alloc | apply pw_below_drewN | apply below_drew1 | refine below_set ?_ GE154.out) | exact HB.out)))).mono ?_); rintro e w' ⟨rfl, ⟨nd, rfl⟩⟩; refine ⟨_, rfl, ?_⟩) | ((with_reducible refine gate_builtin (b := .append) (xs := #[.tmp 20, .tmp 22]) rfl ?_); at_builtin; refine Kd.R_append (Kd.int .i64) (w0 := w) w.heap.size rfl (.tmp 20) (.tmp 22) 43 3 (.int .i64 0) 8 rfl Tryd.underlying43 info3 rfl (by decide) (by omega) u5 x5_1 x12_1 [.int .i64 x12_1] (fun _ => True) (fun _ => False) rfl rfl ?aP (fun _ hk => hk.elim) ?aF ?aO ?aB ?aS ?aL ?_; (case aP => exact rfl); (case aB => exact (by repeat (first | (with_reducible first | exact HB.out | apply below_alloc | apply pw_below_drewN | apply below_drew1 | refine below_set ?_ GE154.out) | exact HB.out))); (case aF => exact (fun _ _ => trivial)); (case aO => exact (by (with_reducible repeat (first | apply Kd.R_alloc | apply Kd.R_drewN | apply Kd.R_drew)); exact HO_5.out)); (case aS => exact (below_size (by repeat (first | (with_reducible first | exact HB.out | apply below_alloc | apply pw_below_drewN | apply below_drew1 | refine below_set ?_ GE154.out) | exact HB.out)))); (case aL => have := LMc12.out; omega); intro v161 w13 ho hb hg hat; rw [← Ny160.out] at ho; have n0_ := Aside0.mk (blk_grown (g := gb154) (o := .cells #[.string a0_0, .string a0_1, .slice (some ad158) l0_2.length c0_2] 28 (0, 0)) (by (with_reducible repeat (first | refine blk_drewN ?_ _ | refine blk_drew ?_ | refine blk_alloc ?_ _)); exact BK154.out) hg (Kd.R_ne HO_5.out BK154.out (by decide))); have n1_ := Aside0.mk (hb); have n2_ := Aside0.mk (ho); clear BK154; clear HB; clear HO_5; have BK154 := n0_; have HB := n1_; have HO162 := n2_; clear n0_ n1_ n2_; clear ho hb hg hat))
                go_roundg k1
                case measure => have := HK1.out; omega
                case rel => exact ⟨(y160), (wrap64 (x12_1 + 1)), (by first | rfl | (simp; done) | (simp [*]; done)), H', ⟨by have := HK1.out; omega⟩, ⟨by (with_reducible repeat (first | apply Kd.R_alloc | apply Kd.R_drewN | apply Kd.R_drew)); exact HO162.out⟩, ⟨by (with_reducible repeat (first | refine blk_drewN ?_ _ | refine blk_drew ?_ | refine blk_alloc ?_ _)); exact BK154.out⟩, ⟨by repeat (first | (with_reducible first | exact HB.out | apply below_alloc | apply pw_below_drewN | apply below_drew1 | refine below_set ?_ GE154.out) | exact HB.out)⟩⟩
              · rw [if_neg c12] at H
                exact absurd H (by simp)
            · replace c11 := Bool.eq_false_iff.mpr c11
              subst c11
              have H1 : (impl_Scheme_wordsIn.l0 k1 a1 x5_1 l0_2 (l0_2.length : Int) (wrap64 (x12_1 + 1))) = some r := by rw [if_neg (show ¬ (false = true) by decide)] at H; exact H
              clear H
              have H := H1
              clear H1
              have H' := Aside0.mk H
              clear H
              have p158 : 0 ≤ (x12_1 : Int) := of_decide_eq_true (by first | (with_reducible assumption) | assumption)
              have q158 : x12_1 < (l0_2.length : Int) := of_decide_eq_true (by first | (with_reducible assumption) | assumption)
              obtain ⟨ad158, e158, hx158_0⟩ := Kd.at_string HR0_2.out x12_1 p158 q158
              cases e158
              replace hx158_0 := (HB.out.cell (World.block_lt_of_cell? w _ hx158_0)).trans hx158_0
              replace p158 := eq_true p158
              replace q158 := eq_true q158
              go_wp2_with (first | ((with_reducible refine gate_callee (f := 81) rfl ?_); refine goesL_ (some 19) rfl rfl Tryd.func81 (by kernel_rfl) rfl #[.string a1, .string (rdOf ByteArray.empty l0_2 x12_1)] rfl (by (try simp only [List.map_toArray, List.map_cons, List.map_nil]); first | done | rfl | (simp only [List.length_drop, List.length_take]; rfl)) ?_; (with_reducible refine (strings_Contains.calls a1 (rdOf ByteArray.empty l0_2 x12_1) false _ A10.out (env_below HENV.out (by repeat (first | (with_reducible first | exact HB.out | apply below_alloc | apply pw_below_drewN | apply below_drew1 | refine below_set ?_ GE154.out) | exact HB.out)))).mono ?_); rintro e w' ⟨rfl, ⟨nd, rfl⟩⟩; refine ⟨_, rfl, ?_⟩))
              go_roundg k1
              case measure => have := HK1.out; omega
              case rel => exact ⟨(x5_1), (wrap64 (x12_1 + 1)), (by first | rfl | (simp; done) | (simp [*]; done)), H', ⟨by have := HK1.out; omega⟩, ⟨by (with_reducible repeat (first | apply Kd.R_alloc | apply Kd.R_drewN | apply Kd.R_drew)); exact HO_5.out⟩, ⟨by (with_reducible repeat (first | refine blk_drewN ?_ _ | refine blk_drew ?_ | refine blk_alloc ?_ _)); exact BK154.out⟩, ⟨by repeat (first | (with_reducible first | exact HB.out | apply below_alloc | apply pw_below_drewN | apply below_drew1 | refine below_set ?_ GE154.out) | exact HB.out)⟩⟩
          · rw [if_neg c9] at H
            exact absurd H (by simp)
        · rw [if_neg c8] at H
          exact absurd H (by simp)
      · rw [if_neg c7] at H
        have c7b0 : decide (x12_1 < (l0_2.length : Int)) = false := decide_eq_false c7
        clear c7
        obtain rfl := Option.some.inj H
        go_wp2
        go_ret
        exact ⟨_, by first | rfl | (simp [errW_none, errW_some] <;> rfl) | (simp [*, errW_none, errW_some] <;> rfl), by (with_reducible repeat (first | apply Kd.R_alloc | apply Kd.R_drewN | apply Kd.R_drew)); exact HO_5.out, by repeat (first | (with_reducible first | exact HB.out | apply below_alloc | apply pw_below_drewN | apply below_drew1 | refine below_set ?_ GE154.out) | exact HB.out)⟩

/-! ### impl_IsScheme: function 22 -/
-- --making
-- included signsT
theorem wrapid_ {x : Int} (h0 : -9223372036854775808 ≤ x) (h1 : x < 9223372036854775808) : wrap64 x = x := by
  unfold wrap64
  omega
theorem impl_letter_ (c : Int) : impl_isLetter.f c = some (decide (65 ≤ c) && decide (c ≤ 90)) := by
  unfold impl_isLetter.f
  by_cases h : c ≥ 65
  · rw [if_pos h]; simp [h]
  · rw [if_neg h]; simp; omega
theorem impl_signs_l0_ (s : ByteArray) (lo hi : Int) (hn : s.size ≤ 1048576) : ∀ (d i k : Nat), i + d = s.size → d < k →
    impl_areSigns.l0 k s lo hi s.size i = some (allS s d i && (decide (lo ≤ s.size) && decide ((s.size : Int) ≤ hi)))
  | 0, i, k, h, hk => by
    obtain ⟨k, rfl⟩ : ∃ m, k = m + 1 := ⟨k - 1, by omega⟩
    simp only [impl_areSigns.l0, allS]
    rw [if_neg (by omega)]
    unfold impl_within.f
    by_cases c : lo ≤ (s.size : Int)
    · rw [if_pos c]; simp [c]
    · rw [if_neg c]; simp [c]
  | d + 1, i, k, h, hk => by
    obtain ⟨k, rfl⟩ : ∃ m, k = m + 1 := ⟨k - 1, by omega⟩
    simp only [impl_areSigns.l0, allS]
    rw [if_pos (by omega), if_pos (by omega), if_pos (by omega), impl_letter_]
    simp only [Option.bind_some]
    rw [wrapid_ (by omega) (by omega)]
    have ih := impl_signs_l0_ s lo hi hn d (i + 1) k (by omega) (by omega)
    by_cases c : 65 ≤ bt s i ∧ bt s i ≤ 90
    · rw [if_pos (by simp [c.1, c.2])]
      rw [show ((i : Int) + 1) = ((i + 1 : Nat) : Int) by omega, ih]
      simp [sgnB, c.1, c.2]
    · rw [if_neg (by simpa using c)]
      by_cases c1 : bt s i < 48
      · rw [if_pos c1]
        congr 1
        have : sgnB (bt s i) = false := by simp [sgnB]; omega
        rw [this]; rfl
      · rw [if_neg c1]
        by_cases c2 : bt s i > 57
        · rw [if_pos c2]
          congr 1
          have : sgnB (bt s i) = false := by simp [sgnB]; omega
          rw [this]; rfl
        · rw [if_neg c2, show ((i : Int) + 1) = ((i + 1 : Nat) : Int) by omega, ih]
          have : sgnB (bt s i) = true := by simp [sgnB]; omega
          rw [this]; rfl
theorem impl_signs_ (s : ByteArray) (lo hi : Int) (hn : s.size ≤ 1048576) (k : Nat) (hk : s.size < k) : impl_areSigns.f k s lo hi = some (signsB s lo hi) := by
  unfold impl_areSigns.f signsB
  have := impl_signs_l0_ s lo hi hn s.size 0 k (by omega) hk
  rw [show ((0 : Nat) : Int) = 0 from rfl] at this
  rw [this, Bool.and_comm]

set_option maxHeartbeats 2000000 in
set_option maxRecDepth 100000 in
theorem anyW_calls (A : Option Addr) (c : Nat) (l : List ByteArray) (w : World) (hr : Kd.C Kd.string w A l.length l) (hl : l.length ≤ 1048576) (hsz : ∀ x ∈ l, x.size ≤ 1048576) :
    Calls Tryd.prog 51 #[.slice A l.length c, .func (.func 52) #[] #[]] w fun e w' => e = .returned (.bool (l.any fun x => !signsB x 1 4)) ∧ ∃ q, w' = w.drewN q := by
  rcases Nat.eq_zero_or_pos l.length with h0 | h0
  · have : l = [] := List.length_eq_zero_iff.mp h0
    subst this
    exact (Tryd.slices_ContainsFunc_empty (α := Nat) A c _ w).mono fun e w' ⟨he, hw⟩ => ⟨he, 0, hw⟩
  · obtain ⟨b, off, rfl, hc⟩ := kdC_cells hr h0
    haveI : Inhabited {x : ByteArray // x.size ≤ 1048576} := ⟨⟨ByteArray.empty, by decide⟩⟩
    have hlen : (l.pmap (fun x h => (⟨x, h⟩ : {x : ByteArray // x.size ≤ 1048576})) hsz).length = l.length := List.length_pmap
    have hp : PredAt Tryd.prog 52 #[] (fun x : {x : ByteArray // x.size ≤ 1048576} => Value.string x.1) (fun x => !signsB x.1 1 4) w := by
      intro W x _
      have HS := Aside0.mk (impl_signs_ x.1 1 4 x.2 (x.1.size + 1) (Nat.lt_succ_self _))
      obtain ⟨x, hx⟩ := x
      show Calls _ _ #[.string x] W _
      replace HS : Aside0 (impl_areSigns.f (x.size + 1) x 1 4 = some (signsB x 1 4)) := HS
      go_enter Tryd.func52, Tryd.ntmps52
      go_wp2_with (go_at_call 50; (with_reducible refine (impl_areSigns.calls (x.size + 1) x 1 4 (signsB x 1 4) _ HS.out).mono ?_); rintro e w' ⟨rfl, ⟨nd, rfl⟩⟩)
      go_ret
      exact ⟨rfl, _, rfl⟩
    have hres := Tryd.slices_ContainsFunc (fun x : {x : ByteArray // x.size ≤ 1048576} => Value.string x.1) (fun x => !signsB x.1 1 4) 52 #[] (enters_of Tryd.func52 (by kernel_rfl) rfl) b off l.length c (l.pmap (fun x h => (⟨x, h⟩ : {x : ByteArray // x.size ≤ 1048576})) hsz) w hp (by rw [hlen]; exact Nat.le_refl _) (by omega) (fun j hj => by
      rw [hlen] at hj
      rw [hc j hj, getElem!_pos _ j (by rw [hlen]; exact hj), List.getElem_pmap])
    have hany : ∀ (m : List ByteArray) (h : ∀ x ∈ m, x.size ≤ 1048576), (m.pmap (fun x h => (⟨x, h⟩ : {x : ByteArray // x.size ≤ 1048576})) h).any (fun x => !signsB x.1 1 4) = m.any fun x => !signsB x 1 4 := by
      intro m
      induction m with
      | nil => intro _; rfl
      | cons a m ih => intro h; rw [List.pmap_cons, List.any_cons, List.any_cons, ih]
    refine hres.mono ?_
    rintro e w' ⟨rfl, q, rfl⟩
    refine ⟨?_, q, rfl⟩
    rw [← hany l hsz, ← hlen, List.take_length]
def impl_IsScheme.f (p b : ByteArray) (ws : List ByteArray) : Option Bool := if smallS p b ws = true then some (isSchT p b ws) else none
set_option maxHeartbeats 4000000 in
set_option maxRecDepth 100000 in
theorem impl_IsScheme.calls (a0_0 : ByteArray) (a0_1 : ByteArray) (A0_2 : Option Addr) (c0_2 : Nat) (l0_2 : List ByteArray) (r : Bool) (w : World) (hr0_2 : Kd.C Kd.string w A0_2 l0_2.length l0_2) (hc0_2 : l0_2.length ≤ c0_2) (h : impl_IsScheme.f a0_0 a0_1 l0_2 = some r) :
    Calls Tryd.prog 22 #[.agg #[.string a0_0, .string a0_1, .slice A0_2 l0_2.length c0_2]] w fun e w' => e = .returned (.bool r) ∧ Below w.heap.size w w' := by
  unfold impl_IsScheme.f at h
  by_cases hsm : smallS a0_0 a0_1 l0_2 = true
  case neg => rw [if_neg hsm] at h; cases h
  rw [if_pos hsm] at h
  have hR := Option.some.inj h
  simp only [smallS, Bool.and_eq_true, decide_eq_true_eq, List.all_eq_true] at hsm
  obtain ⟨⟨⟨hs0, hs1⟩, hs2⟩, hs3⟩ := hsm
  have HA := Aside0.mk (fun (W : World) (hb : Below w.heap.size w W) => anyW_calls A0_2 c0_2 l0_2 W (Kd.C_below hr0_2 hb) hs2 hs3)
  have HS0 := Aside0.mk hs0
  have HS1 := Aside0.mk hs1
  have HS2 := Aside0.mk hs2
  have HR := Aside0.mk hR
  have HG := Aside0.mk (impl_signs_ a0_1 0 36 hs1 (a0_1.size + 1) (Nat.lt_succ_self _))
  have HW := Aside0.mk (show impl_within.f (a0_0.size : Int) 1 8 = some (decide (1 ≤ (a0_0.size : Int)) && decide ((a0_0.size : Int) ≤ 8)) by
    unfold impl_within.f
    by_cases c : 1 ≤ (a0_0.size : Int)
    · rw [if_pos c]; simp [c]
    · rw [if_neg c]; simp [c])
  obtain ⟨z, hz⟩ : ∃ z, z = trimZ a0_0 := ⟨_, rfl⟩
  have HT := Aside0.mk (fun W : World => (show Calls Tryd.prog 49 #[.string a0_0, .string (⟨#[76, 68]⟩ : ByteArray)] W fun e w' => e = .returned (.string z) ∧ Below W.heap.size W w' by
    rw [hz]
    exact Tryd.strings_Trim_laid a0_0 (⟨#[76, 68]⟩ : ByteArray) W (by omega) (by decide) (ascii_of_all (by decide))))
  have HZ := Aside0.mk hz
  clear hz
  clear hr0_2 hc0_2 h hR hs0 hs1 hs2 hs3
  go_enter Tryd.func22, Tryd.ntmps22
  go_wp2_with ((with_reducible refine gate_dst (N := 1) rfl ?_); refine box_event ?hg (N := 1) ?hd (cs := #[.string a0_0, .string a0_1, .slice A0_2 l0_2.length c0_2]) (t := 28) ?hr ?_; (case hd => rfl); (case hg => rfl); (case hr => first | (go_simp; done) | (go_simp; rfl)); intro B1 hg1 w1 hx1 hb1; have HX1 := Aside0.mk hx1; have HB1 := Aside0.mk hb1; clear hg1 hx1 hb1)
  go_loopg [3] (a0_1.size - 1) (fun d v3 w' => ∃ i : Int, v3 = .int .i64 i ∧ Aside0 (1 ≤ i ∧ (i + d = (a0_1.size : Int) ∨ (d = 0 ∧ (a0_1.size : Int) ≤ i))) ∧ Aside0 (risesL d a0_1 i = risesL (a0_1.size - 1) a0_1 1) ∧ Aside0 (w'.heap[B1]? = some (.cells #[.string a0_0, .string a0_1, .slice A0_2 l0_2.length c0_2] 28 (0, 0))) ∧ Aside0 (Below w.heap.size w w'))
  case atStart => exact ⟨1, rfl, ⟨by omega, by omega⟩, ⟨rfl⟩, HX1, HB1⟩
  case round =>
    clear HX1 HB1
    obtain ⟨i, rfl, HI, HQ, HX, HB⟩ := hrel
    have hcz0 : wr.cell? ⟨B1, 0, none⟩ = some (.string a0_0) := (blk_cell HX.out 0).trans rfl
    have hcz1 : wr.cell? ⟨B1, 1, none⟩ = some (.string a0_1) := (blk_cell HX.out 1).trans rfl
    have hcz2 : wr.cell? ⟨B1, 2, none⟩ = some (.slice A0_2 l0_2.length c0_2) := (blk_cell HX.out 2).trans rfl
    cases gk with
    | succ k1 =>
      have hlt : i < (a0_1.size : Int) := by have := HI.out; omega
      obtain ⟨ji, hji⟩ : ∃ j : Int, i - 1 = j := ⟨_, rfl⟩
      have hjiw : IntKind.i64.wrap (i - 1) = ji := (i64_w _).trans (by have := HI.out; have := HS1.out; unfold wrap64; omega)
      have p1 := eq_true (show 0 ≤ ji by have := HI.out; omega)
      have q1 := eq_true (show ji < (a0_1.size : Int) by omega)
      have hx1 := bt_at a0_1 ji
      have p0 := eq_true (show 0 ≤ i by have := HI.out; omega)
      have q0 := eq_true hlt
      have hx0 := bt_at a0_1 i
      have hc : decide (i < (a0_1.size : Int)) = true := decide_eq_true hlt
      have HJI := Aside0.mk hji
      clear hlt hji
      by_cases c : bt a0_1 i ≤ bt a0_1 ji
      · have c1 : decide (bt a0_1 i ≤ bt a0_1 ji) = true := decide_eq_true c
        have hz : isSchT a0_0 a0_1 l0_2 = false := by
          have := HQ.out
          rw [risesL, HJI.out, if_pos c] at this
          unfold isSchT
          rw [← this]; rfl
        have HR2 := Aside0.mk (hz.symm.trans HR.out)
        clear hz c HR
        obtain rfl := HR2.out
        go_wp2
        repeat (go_quiet (fail); try go_wp2)
        go_ret
        exact ⟨rfl, by repeat (first | (with_reducible first | exact HB.out | apply below_alloc | apply pw_below_drewN | apply below_drew1) | exact HB.out)⟩
      · have c1 : decide (bt a0_1 i ≤ bt a0_1 ji) = false := decide_eq_false c
        have HQ2 := Aside0.mk (show risesL k1 a0_1 (i + 1) = risesL (a0_1.size - 1) a0_1 1 by
          have := HQ.out
          rw [risesL, HJI.out, if_neg c] at this
          exact this)
        clear HQ c
        go_wp2
        repeat (go_quiet (fail); try go_wp2)
        go_roundg k1
        case measure => omega
        case rel => exact ⟨i + 1, congrArg (Value.int .i64) (by have := HI.out; have := HS1.out; unfold wrap64; omega), ⟨by have := HI.out; omega, by have := HI.out; omega⟩, HQ2, ⟨by (with_reducible repeat (first | refine blk_drewN ?_ _ | refine blk_drew ?_ | refine blk_alloc ?_ _)); exact HX.out⟩, ⟨by repeat (first | (with_reducible first | exact HB.out | apply below_alloc | apply pw_below_drewN | apply below_drew1) | exact HB.out)⟩⟩
    | zero =>
      have hc : decide (i < (a0_1.size : Int)) = false := decide_eq_false (by have := HI.out; omega)
      have HRS := Aside0.mk (show risesL (a0_1.size - 1) a0_1 1 = true from HQ.out.symm)
      clear HQ
      have HR := Aside0.mk (show ((decide (1 ≤ (a0_0.size : Int)) && decide ((a0_0.size : Int) ≤ 8)) && ((z.toList == ([] : List UInt8)) && (signsB a0_1 0 36 && (decide (l0_2.length ≤ 3) && !(l0_2.any fun x => !signsB x 1 4))))) = r by
        rw [HZ.out]
        have := HR.out
        unfold isSchT at this
        rw [HRS.out, Bool.true_and] at this
        exact this)
      clear HRS HZ
      cases hx1 : (decide (1 ≤ (a0_0.size : Int)) && decide ((a0_0.size : Int) ≤ 8)) with
      | false =>
        rw [hx1] at HW HR
        clear hx1
        go_wp2_with (first | (go_at_call 48; (with_reducible refine (impl_within.calls (a0_0.size : Int) 1 8 _ _ HW.out).mono ?_); rintro e w' ⟨rfl, ⟨nd, rfl⟩⟩) | (go_at_call 49; (with_reducible refine (HT.out _).mono ?_); rintro e w2 ⟨rfl, hb2⟩; have HX2 := Aside0.mk (blk_below (by (with_reducible repeat (first | refine blk_drewN ?_ _ | refine blk_drew ?_ | refine blk_alloc ?_ _)); exact HX.out) hb2); have HB2 := Aside0.mk (below_step (by repeat (first | (with_reducible first | exact HB.out | apply below_alloc | apply pw_below_drewN | apply below_drew1) | exact HB.out)) hb2); have hcy0 : w2.cell? ⟨B1, 0, none⟩ = some (.string a0_0) := (blk_cell HX2.out 0).trans rfl; have hcy1 : w2.cell? ⟨B1, 1, none⟩ = some (.string a0_1) := (blk_cell HX2.out 1).trans rfl; have hcy2 : w2.cell? ⟨B1, 2, none⟩ = some (.slice A0_2 l0_2.length c0_2) := (blk_cell HX2.out 2).trans rfl; clear hb2) | (go_at_call 50; (with_reducible refine (impl_areSigns.calls (a0_1.size + 1) a0_1 0 36 _ _ HG.out).mono ?_); rintro e w' ⟨rfl, ⟨nd2, rfl⟩⟩) | (go_at_call 51; (with_reducible refine (HA.out _ (by repeat (first | (with_reducible first | exact HB2.out | apply below_alloc | apply pw_below_drewN | apply below_drew1) | exact HB2.out))).mono ?_); rintro e w' ⟨rfl, ⟨nd3, rfl⟩⟩))
        repeat (go_quiet (first | (go_at_call 48; (with_reducible refine (impl_within.calls (a0_0.size : Int) 1 8 _ _ HW.out).mono ?_); rintro e w' ⟨rfl, ⟨nd, rfl⟩⟩) | (go_at_call 49; (with_reducible refine (HT.out _).mono ?_); rintro e w2 ⟨rfl, hb2⟩; have HX2 := Aside0.mk (blk_below (by (with_reducible repeat (first | refine blk_drewN ?_ _ | refine blk_drew ?_ | refine blk_alloc ?_ _)); exact HX.out) hb2); have HB2 := Aside0.mk (below_step (by repeat (first | (with_reducible first | exact HB.out | apply below_alloc | apply pw_below_drewN | apply below_drew1) | exact HB.out)) hb2); have hcy0 : w2.cell? ⟨B1, 0, none⟩ = some (.string a0_0) := (blk_cell HX2.out 0).trans rfl; have hcy1 : w2.cell? ⟨B1, 1, none⟩ = some (.string a0_1) := (blk_cell HX2.out 1).trans rfl; have hcy2 : w2.cell? ⟨B1, 2, none⟩ = some (.slice A0_2 l0_2.length c0_2) := (blk_cell HX2.out 2).trans rfl; clear hb2) | (go_at_call 50; (with_reducible refine (impl_areSigns.calls (a0_1.size + 1) a0_1 0 36 _ _ HG.out).mono ?_); rintro e w' ⟨rfl, ⟨nd2, rfl⟩⟩) | (go_at_call 51; (with_reducible refine (HA.out _ (by repeat (first | (with_reducible first | exact HB2.out | apply below_alloc | apply pw_below_drewN | apply below_drew1) | exact HB2.out))).mono ?_); rintro e w' ⟨rfl, ⟨nd3, rfl⟩⟩)); try go_wp2_with (first | (go_at_call 48; (with_reducible refine (impl_within.calls (a0_0.size : Int) 1 8 _ _ HW.out).mono ?_); rintro e w' ⟨rfl, ⟨nd, rfl⟩⟩) | (go_at_call 49; (with_reducible refine (HT.out _).mono ?_); rintro e w2 ⟨rfl, hb2⟩; have HX2 := Aside0.mk (blk_below (by (with_reducible repeat (first | refine blk_drewN ?_ _ | refine blk_drew ?_ | refine blk_alloc ?_ _)); exact HX.out) hb2); have HB2 := Aside0.mk (below_step (by repeat (first | (with_reducible first | exact HB.out | apply below_alloc | apply pw_below_drewN | apply below_drew1) | exact HB.out)) hb2); have hcy0 : w2.cell? ⟨B1, 0, none⟩ = some (.string a0_0) := (blk_cell HX2.out 0).trans rfl; have hcy1 : w2.cell? ⟨B1, 1, none⟩ = some (.string a0_1) := (blk_cell HX2.out 1).trans rfl; have hcy2 : w2.cell? ⟨B1, 2, none⟩ = some (.slice A0_2 l0_2.length c0_2) := (blk_cell HX2.out 2).trans rfl; clear hb2) | (go_at_call 50; (with_reducible refine (impl_areSigns.calls (a0_1.size + 1) a0_1 0 36 _ _ HG.out).mono ?_); rintro e w' ⟨rfl, ⟨nd2, rfl⟩⟩) | (go_at_call 51; (with_reducible refine (HA.out _ (by repeat (first | (with_reducible first | exact HB2.out | apply below_alloc | apply pw_below_drewN | apply below_drew1) | exact HB2.out))).mono ?_); rintro e w' ⟨rfl, ⟨nd3, rfl⟩⟩)))
        go_ret
        exact ⟨by rw [← HR.out]; rfl, (by repeat (first | (with_reducible first | exact HB.out | apply below_alloc | apply pw_below_drewN | apply below_drew1) | exact HB.out))⟩
      | true =>
        rw [hx1] at HW HR
        clear hx1
        by_cases c : z.toList = ([] : List UInt8)
        · have cb : (z.toList == ([] : List UInt8)) = true := beq_iff_eq.2 c
          have ce : z.toList.isEmpty = true := by rw [c]; rfl
          rw [cb] at HR
          clear c
          cases hx3 : signsB a0_1 0 36 with
          | false =>
            rw [hx3] at HG HR
            clear hx3
            go_wp2_with (first | (go_at_call 48; (with_reducible refine (impl_within.calls (a0_0.size : Int) 1 8 _ _ HW.out).mono ?_); rintro e w' ⟨rfl, ⟨nd, rfl⟩⟩) | (go_at_call 49; (with_reducible refine (HT.out _).mono ?_); rintro e w2 ⟨rfl, hb2⟩; have HX2 := Aside0.mk (blk_below (by (with_reducible repeat (first | refine blk_drewN ?_ _ | refine blk_drew ?_ | refine blk_alloc ?_ _)); exact HX.out) hb2); have HB2 := Aside0.mk (below_step (by repeat (first | (with_reducible first | exact HB.out | apply below_alloc | apply pw_below_drewN | apply below_drew1) | exact HB.out)) hb2); have hcy0 : w2.cell? ⟨B1, 0, none⟩ = some (.string a0_0) := (blk_cell HX2.out 0).trans rfl; have hcy1 : w2.cell? ⟨B1, 1, none⟩ = some (.string a0_1) := (blk_cell HX2.out 1).trans rfl; have hcy2 : w2.cell? ⟨B1, 2, none⟩ = some (.slice A0_2 l0_2.length c0_2) := (blk_cell HX2.out 2).trans rfl; clear hb2) | (go_at_call 50; (with_reducible refine (impl_areSigns.calls (a0_1.size + 1) a0_1 0 36 _ _ HG.out).mono ?_); rintro e w' ⟨rfl, ⟨nd2, rfl⟩⟩) | (go_at_call 51; (with_reducible refine (HA.out _ (by repeat (first | (with_reducible first | exact HB2.out | apply below_alloc | apply pw_below_drewN | apply below_drew1) | exact HB2.out))).mono ?_); rintro e w' ⟨rfl, ⟨nd3, rfl⟩⟩))
            repeat (go_quiet (first | (go_at_call 48; (with_reducible refine (impl_within.calls (a0_0.size : Int) 1 8 _ _ HW.out).mono ?_); rintro e w' ⟨rfl, ⟨nd, rfl⟩⟩) | (go_at_call 49; (with_reducible refine (HT.out _).mono ?_); rintro e w2 ⟨rfl, hb2⟩; have HX2 := Aside0.mk (blk_below (by (with_reducible repeat (first | refine blk_drewN ?_ _ | refine blk_drew ?_ | refine blk_alloc ?_ _)); exact HX.out) hb2); have HB2 := Aside0.mk (below_step (by repeat (first | (with_reducible first | exact HB.out | apply below_alloc | apply pw_below_drewN | apply below_drew1) | exact HB.out)) hb2); have hcy0 : w2.cell? ⟨B1, 0, none⟩ = some (.string a0_0) := (blk_cell HX2.out 0).trans rfl; have hcy1 : w2.cell? ⟨B1, 1, none⟩ = some (.string a0_1) := (blk_cell HX2.out 1).trans rfl; have hcy2 : w2.cell? ⟨B1, 2, none⟩ = some (.slice A0_2 l0_2.length c0_2) := (blk_cell HX2.out 2).trans rfl; clear hb2) | (go_at_call 50; (with_reducible refine (impl_areSigns.calls (a0_1.size + 1) a0_1 0 36 _ _ HG.out).mono ?_); rintro e w' ⟨rfl, ⟨nd2, rfl⟩⟩) | (go_at_call 51; (with_reducible refine (HA.out _ (by repeat (first | (with_reducible first | exact HB2.out | apply below_alloc | apply pw_below_drewN | apply below_drew1) | exact HB2.out))).mono ?_); rintro e w' ⟨rfl, ⟨nd3, rfl⟩⟩)); try go_wp2_with (first | (go_at_call 48; (with_reducible refine (impl_within.calls (a0_0.size : Int) 1 8 _ _ HW.out).mono ?_); rintro e w' ⟨rfl, ⟨nd, rfl⟩⟩) | (go_at_call 49; (with_reducible refine (HT.out _).mono ?_); rintro e w2 ⟨rfl, hb2⟩; have HX2 := Aside0.mk (blk_below (by (with_reducible repeat (first | refine blk_drewN ?_ _ | refine blk_drew ?_ | refine blk_alloc ?_ _)); exact HX.out) hb2); have HB2 := Aside0.mk (below_step (by repeat (first | (with_reducible first | exact HB.out | apply below_alloc | apply pw_below_drewN | apply below_drew1) | exact HB.out)) hb2); have hcy0 : w2.cell? ⟨B1, 0, none⟩ = some (.string a0_0) := (blk_cell HX2.out 0).trans rfl; have hcy1 : w2.cell? ⟨B1, 1, none⟩ = some (.string a0_1) := (blk_cell HX2.out 1).trans rfl; have hcy2 : w2.cell? ⟨B1, 2, none⟩ = some (.slice A0_2 l0_2.length c0_2) := (blk_cell HX2.out 2).trans rfl; clear hb2) | (go_at_call 50; (with_reducible refine (impl_areSigns.calls (a0_1.size + 1) a0_1 0 36 _ _ HG.out).mono ?_); rintro e w' ⟨rfl, ⟨nd2, rfl⟩⟩) | (go_at_call 51; (with_reducible refine (HA.out _ (by repeat (first | (with_reducible first | exact HB2.out | apply below_alloc | apply pw_below_drewN | apply below_drew1) | exact HB2.out))).mono ?_); rintro e w' ⟨rfl, ⟨nd3, rfl⟩⟩)))
            go_ret
            exact ⟨by rw [← HR.out]; rfl, (by repeat (first | (with_reducible first | exact HB2.out | apply below_alloc | apply pw_below_drewN | apply below_drew1) | exact HB2.out))⟩
          | true =>
            rw [hx3] at HG HR
            clear hx3
            by_cases c3 : l0_2.length ≤ 3
            · have d3 : decide (l0_2.length ≤ 3) = true := decide_eq_true c3
              have d3i : decide ((l0_2.length : Int) ≤ 3) = true := decide_eq_true (by omega)
              rw [d3] at HR
              obtain ⟨x4, hx4⟩ : ∃ x4 : Bool, (l0_2.any fun x => !signsB x 1 4) = x4 := ⟨_, rfl⟩
              rw [hx4] at HR
              simp only [hx4] at HA
              clear hx4
              go_wp2_with (first | (go_at_call 48; (with_reducible refine (impl_within.calls (a0_0.size : Int) 1 8 _ _ HW.out).mono ?_); rintro e w' ⟨rfl, ⟨nd, rfl⟩⟩) | (go_at_call 49; (with_reducible refine (HT.out _).mono ?_); rintro e w2 ⟨rfl, hb2⟩; have HX2 := Aside0.mk (blk_below (by (with_reducible repeat (first | refine blk_drewN ?_ _ | refine blk_drew ?_ | refine blk_alloc ?_ _)); exact HX.out) hb2); have HB2 := Aside0.mk (below_step (by repeat (first | (with_reducible first | exact HB.out | apply below_alloc | apply pw_below_drewN | apply below_drew1) | exact HB.out)) hb2); have hcy0 : w2.cell? ⟨B1, 0, none⟩ = some (.string a0_0) := (blk_cell HX2.out 0).trans rfl; have hcy1 : w2.cell? ⟨B1, 1, none⟩ = some (.string a0_1) := (blk_cell HX2.out 1).trans rfl; have hcy2 : w2.cell? ⟨B1, 2, none⟩ = some (.slice A0_2 l0_2.length c0_2) := (blk_cell HX2.out 2).trans rfl; clear hb2) | (go_at_call 50; (with_reducible refine (impl_areSigns.calls (a0_1.size + 1) a0_1 0 36 _ _ HG.out).mono ?_); rintro e w' ⟨rfl, ⟨nd2, rfl⟩⟩) | (go_at_call 51; (with_reducible refine (HA.out _ (by repeat (first | (with_reducible first | exact HB2.out | apply below_alloc | apply pw_below_drewN | apply below_drew1) | exact HB2.out))).mono ?_); rintro e w' ⟨rfl, ⟨nd3, rfl⟩⟩))
              repeat (go_quiet (first | (go_at_call 48; (with_reducible refine (impl_within.calls (a0_0.size : Int) 1 8 _ _ HW.out).mono ?_); rintro e w' ⟨rfl, ⟨nd, rfl⟩⟩) | (go_at_call 49; (with_reducible refine (HT.out _).mono ?_); rintro e w2 ⟨rfl, hb2⟩; have HX2 := Aside0.mk (blk_below (by (with_reducible repeat (first | refine blk_drewN ?_ _ | refine blk_drew ?_ | refine blk_alloc ?_ _)); exact HX.out) hb2); have HB2 := Aside0.mk (below_step (by repeat (first | (with_reducible first | exact HB.out | apply below_alloc | apply pw_below_drewN | apply below_drew1) | exact HB.out)) hb2); have hcy0 : w2.cell? ⟨B1, 0, none⟩ = some (.string a0_0) := (blk_cell HX2.out 0).trans rfl; have hcy1 : w2.cell? ⟨B1, 1, none⟩ = some (.string a0_1) := (blk_cell HX2.out 1).trans rfl; have hcy2 : w2.cell? ⟨B1, 2, none⟩ = some (.slice A0_2 l0_2.length c0_2) := (blk_cell HX2.out 2).trans rfl; clear hb2) | (go_at_call 50; (with_reducible refine (impl_areSigns.calls (a0_1.size + 1) a0_1 0 36 _ _ HG.out).mono ?_); rintro e w' ⟨rfl, ⟨nd2, rfl⟩⟩) | (go_at_call 51; (with_reducible refine (HA.out _ (by repeat (first | (with_reducible first | exact HB2.out | apply below_alloc | apply pw_below_drewN | apply below_drew1) | exact HB2.out))).mono ?_); rintro e w' ⟨rfl, ⟨nd3, rfl⟩⟩)); try go_wp2_with (first | (go_at_call 48; (with_reducible refine (impl_within.calls (a0_0.size : Int) 1 8 _ _ HW.out).mono ?_); rintro e w' ⟨rfl, ⟨nd, rfl⟩⟩) | (go_at_call 49; (with_reducible refine (HT.out _).mono ?_); rintro e w2 ⟨rfl, hb2⟩; have HX2 := Aside0.mk (blk_below (by (with_reducible repeat (first | refine blk_drewN ?_ _ | refine blk_drew ?_ | refine blk_alloc ?_ _)); exact HX.out) hb2); have HB2 := Aside0.mk (below_step (by repeat (first | (with_reducible first | exact HB.out | apply below_alloc | apply pw_below_drewN | apply below_drew1) | exact HB.out)) hb2); have hcy0 : w2.cell? ⟨B1, 0, none⟩ = some (.string a0_0) := (blk_cell HX2.out 0).trans rfl; have hcy1 : w2.cell? ⟨B1, 1, none⟩ = some (.string a0_1) := (blk_cell HX2.out 1).trans rfl; have hcy2 : w2.cell? ⟨B1, 2, none⟩ = some (.slice A0_2 l0_2.length c0_2) := (blk_cell HX2.out 2).trans rfl; clear hb2) | (go_at_call 50; (with_reducible refine (impl_areSigns.calls (a0_1.size + 1) a0_1 0 36 _ _ HG.out).mono ?_); rintro e w' ⟨rfl, ⟨nd2, rfl⟩⟩) | (go_at_call 51; (with_reducible refine (HA.out _ (by repeat (first | (with_reducible first | exact HB2.out | apply below_alloc | apply pw_below_drewN | apply below_drew1) | exact HB2.out))).mono ?_); rintro e w' ⟨rfl, ⟨nd3, rfl⟩⟩)))
              go_ret
              exact ⟨by rw [← HR.out]; rfl, (by repeat (first | (with_reducible first | exact HB2.out | apply below_alloc | apply pw_below_drewN | apply below_drew1) | exact HB2.out))⟩
            · have d3 : decide (l0_2.length ≤ 3) = false := decide_eq_false c3
              have d3i : decide ((l0_2.length : Int) ≤ 3) = false := decide_eq_false (by omega)
              rw [d3] at HR
              go_wp2_with (first | (go_at_call 48; (with_reducible refine (impl_within.calls (a0_0.size : Int) 1 8 _ _ HW.out).mono ?_); rintro e w' ⟨rfl, ⟨nd, rfl⟩⟩) | (go_at_call 49; (with_reducible refine (HT.out _).mono ?_); rintro e w2 ⟨rfl, hb2⟩; have HX2 := Aside0.mk (blk_below (by (with_reducible repeat (first | refine blk_drewN ?_ _ | refine blk_drew ?_ | refine blk_alloc ?_ _)); exact HX.out) hb2); have HB2 := Aside0.mk (below_step (by repeat (first | (with_reducible first | exact HB.out | apply below_alloc | apply pw_below_drewN | apply below_drew1) | exact HB.out)) hb2); have hcy0 : w2.cell? ⟨B1, 0, none⟩ = some (.string a0_0) := (blk_cell HX2.out 0).trans rfl; have hcy1 : w2.cell? ⟨B1, 1, none⟩ = some (.string a0_1) := (blk_cell HX2.out 1).trans rfl; have hcy2 : w2.cell? ⟨B1, 2, none⟩ = some (.slice A0_2 l0_2.length c0_2) := (blk_cell HX2.out 2).trans rfl; clear hb2) | (go_at_call 50; (with_reducible refine (impl_areSigns.calls (a0_1.size + 1) a0_1 0 36 _ _ HG.out).mono ?_); rintro e w' ⟨rfl, ⟨nd2, rfl⟩⟩) | (go_at_call 51; (with_reducible refine (HA.out _ (by repeat (first | (with_reducible first | exact HB2.out | apply below_alloc | apply pw_below_drewN | apply below_drew1) | exact HB2.out))).mono ?_); rintro e w' ⟨rfl, ⟨nd3, rfl⟩⟩))
              repeat (go_quiet (first | (go_at_call 48; (with_reducible refine (impl_within.calls (a0_0.size : Int) 1 8 _ _ HW.out).mono ?_); rintro e w' ⟨rfl, ⟨nd, rfl⟩⟩) | (go_at_call 49; (with_reducible refine (HT.out _).mono ?_); rintro e w2 ⟨rfl, hb2⟩; have HX2 := Aside0.mk (blk_below (by (with_reducible repeat (first | refine blk_drewN ?_ _ | refine blk_drew ?_ | refine blk_alloc ?_ _)); exact HX.out) hb2); have HB2 := Aside0.mk (below_step (by repeat (first | (with_reducible first | exact HB.out | apply below_alloc | apply pw_below_drewN | apply below_drew1) | exact HB.out)) hb2); have hcy0 : w2.cell? ⟨B1, 0, none⟩ = some (.string a0_0) := (blk_cell HX2.out 0).trans rfl; have hcy1 : w2.cell? ⟨B1, 1, none⟩ = some (.string a0_1) := (blk_cell HX2.out 1).trans rfl; have hcy2 : w2.cell? ⟨B1, 2, none⟩ = some (.slice A0_2 l0_2.length c0_2) := (blk_cell HX2.out 2).trans rfl; clear hb2) | (go_at_call 50; (with_reducible refine (impl_areSigns.calls (a0_1.size + 1) a0_1 0 36 _ _ HG.out).mono ?_); rintro e w' ⟨rfl, ⟨nd2, rfl⟩⟩) | (go_at_call 51; (with_reducible refine (HA.out _ (by repeat (first | (with_reducible first | exact HB2.out | apply below_alloc | apply pw_below_drewN | apply below_drew1) | exact HB2.out))).mono ?_); rintro e w' ⟨rfl, ⟨nd3, rfl⟩⟩)); try go_wp2_with (first | (go_at_call 48; (with_reducible refine (impl_within.calls (a0_0.size : Int) 1 8 _ _ HW.out).mono ?_); rintro e w' ⟨rfl, ⟨nd, rfl⟩⟩) | (go_at_call 49; (with_reducible refine (HT.out _).mono ?_); rintro e w2 ⟨rfl, hb2⟩; have HX2 := Aside0.mk (blk_below (by (with_reducible repeat (first | refine blk_drewN ?_ _ | refine blk_drew ?_ | refine blk_alloc ?_ _)); exact HX.out) hb2); have HB2 := Aside0.mk (below_step (by repeat (first | (with_reducible first | exact HB.out | apply below_alloc | apply pw_below_drewN | apply below_drew1) | exact HB.out)) hb2); have hcy0 : w2.cell? ⟨B1, 0, none⟩ = some (.string a0_0) := (blk_cell HX2.out 0).trans rfl; have hcy1 : w2.cell? ⟨B1, 1, none⟩ = some (.string a0_1) := (blk_cell HX2.out 1).trans rfl; have hcy2 : w2.cell? ⟨B1, 2, none⟩ = some (.slice A0_2 l0_2.length c0_2) := (blk_cell HX2.out 2).trans rfl; clear hb2) | (go_at_call 50; (with_reducible refine (impl_areSigns.calls (a0_1.size + 1) a0_1 0 36 _ _ HG.out).mono ?_); rintro e w' ⟨rfl, ⟨nd2, rfl⟩⟩) | (go_at_call 51; (with_reducible refine (HA.out _ (by repeat (first | (with_reducible first | exact HB2.out | apply below_alloc | apply pw_below_drewN | apply below_drew1) | exact HB2.out))).mono ?_); rintro e w' ⟨rfl, ⟨nd3, rfl⟩⟩)))
              go_ret
              exact ⟨by rw [← HR.out]; rfl, (by repeat (first | (with_reducible first | exact HB2.out | apply below_alloc | apply pw_below_drewN | apply below_drew1) | exact HB2.out))⟩
        · have cb : (z.toList == ([] : List UInt8)) = false := beq_eq_false_iff_ne.2 c
          have ce : z.toList.isEmpty = false := by
            cases hq : z.toList with
            | nil => exact absurd hq c
            | cons a b => rfl
          rw [cb] at HR
          go_wp2_with (first | (go_at_call 48; (with_reducible refine (impl_within.calls (a0_0.size : Int) 1 8 _ _ HW.out).mono ?_); rintro e w' ⟨rfl, ⟨nd, rfl⟩⟩) | (go_at_call 49; (with_reducible refine (HT.out _).mono ?_); rintro e w2 ⟨rfl, hb2⟩; have HX2 := Aside0.mk (blk_below (by (with_reducible repeat (first | refine blk_drewN ?_ _ | refine blk_drew ?_ | refine blk_alloc ?_ _)); exact HX.out) hb2); have HB2 := Aside0.mk (below_step (by repeat (first | (with_reducible first | exact HB.out | apply below_alloc | apply pw_below_drewN | apply below_drew1) | exact HB.out)) hb2); have hcy0 : w2.cell? ⟨B1, 0, none⟩ = some (.string a0_0) := (blk_cell HX2.out 0).trans rfl; have hcy1 : w2.cell? ⟨B1, 1, none⟩ = some (.string a0_1) := (blk_cell HX2.out 1).trans rfl; have hcy2 : w2.cell? ⟨B1, 2, none⟩ = some (.slice A0_2 l0_2.length c0_2) := (blk_cell HX2.out 2).trans rfl; clear hb2) | (go_at_call 50; (with_reducible refine (impl_areSigns.calls (a0_1.size + 1) a0_1 0 36 _ _ HG.out).mono ?_); rintro e w' ⟨rfl, ⟨nd2, rfl⟩⟩) | (go_at_call 51; (with_reducible refine (HA.out _ (by repeat (first | (with_reducible first | exact HB2.out | apply below_alloc | apply pw_below_drewN | apply below_drew1) | exact HB2.out))).mono ?_); rintro e w' ⟨rfl, ⟨nd3, rfl⟩⟩))
          repeat (go_quiet (first | (go_at_call 48; (with_reducible refine (impl_within.calls (a0_0.size : Int) 1 8 _ _ HW.out).mono ?_); rintro e w' ⟨rfl, ⟨nd, rfl⟩⟩) | (go_at_call 49; (with_reducible refine (HT.out _).mono ?_); rintro e w2 ⟨rfl, hb2⟩; have HX2 := Aside0.mk (blk_below (by (with_reducible repeat (first | refine blk_drewN ?_ _ | refine blk_drew ?_ | refine blk_alloc ?_ _)); exact HX.out) hb2); have HB2 := Aside0.mk (below_step (by repeat (first | (with_reducible first | exact HB.out | apply below_alloc | apply pw_below_drewN | apply below_drew1) | exact HB.out)) hb2); have hcy0 : w2.cell? ⟨B1, 0, none⟩ = some (.string a0_0) := (blk_cell HX2.out 0).trans rfl; have hcy1 : w2.cell? ⟨B1, 1, none⟩ = some (.string a0_1) := (blk_cell HX2.out 1).trans rfl; have hcy2 : w2.cell? ⟨B1, 2, none⟩ = some (.slice A0_2 l0_2.length c0_2) := (blk_cell HX2.out 2).trans rfl; clear hb2) | (go_at_call 50; (with_reducible refine (impl_areSigns.calls (a0_1.size + 1) a0_1 0 36 _ _ HG.out).mono ?_); rintro e w' ⟨rfl, ⟨nd2, rfl⟩⟩) | (go_at_call 51; (with_reducible refine (HA.out _ (by repeat (first | (with_reducible first | exact HB2.out | apply below_alloc | apply pw_below_drewN | apply below_drew1) | exact HB2.out))).mono ?_); rintro e w' ⟨rfl, ⟨nd3, rfl⟩⟩)); try go_wp2_with (first | (go_at_call 48; (with_reducible refine (impl_within.calls (a0_0.size : Int) 1 8 _ _ HW.out).mono ?_); rintro e w' ⟨rfl, ⟨nd, rfl⟩⟩) | (go_at_call 49; (with_reducible refine (HT.out _).mono ?_); rintro e w2 ⟨rfl, hb2⟩; have HX2 := Aside0.mk (blk_below (by (with_reducible repeat (first | refine blk_drewN ?_ _ | refine blk_drew ?_ | refine blk_alloc ?_ _)); exact HX.out) hb2); have HB2 := Aside0.mk (below_step (by repeat (first | (with_reducible first | exact HB.out | apply below_alloc | apply pw_below_drewN | apply below_drew1) | exact HB.out)) hb2); have hcy0 : w2.cell? ⟨B1, 0, none⟩ = some (.string a0_0) := (blk_cell HX2.out 0).trans rfl; have hcy1 : w2.cell? ⟨B1, 1, none⟩ = some (.string a0_1) := (blk_cell HX2.out 1).trans rfl; have hcy2 : w2.cell? ⟨B1, 2, none⟩ = some (.slice A0_2 l0_2.length c0_2) := (blk_cell HX2.out 2).trans rfl; clear hb2) | (go_at_call 50; (with_reducible refine (impl_areSigns.calls (a0_1.size + 1) a0_1 0 36 _ _ HG.out).mono ?_); rintro e w' ⟨rfl, ⟨nd2, rfl⟩⟩) | (go_at_call 51; (with_reducible refine (HA.out _ (by repeat (first | (with_reducible first | exact HB2.out | apply below_alloc | apply pw_below_drewN | apply below_drew1) | exact HB2.out))).mono ?_); rintro e w' ⟨rfl, ⟨nd3, rfl⟩⟩)))
          go_ret
          exact ⟨by rw [← HR.out]; rfl, (by repeat (first | (with_reducible first | exact HB2.out | apply below_alloc | apply pw_below_drewN | apply below_drew1) | exact HB2.out))⟩

end Go.Proofs.YtmplmfoacnnieaaDoor.PFnExactCountPlates
