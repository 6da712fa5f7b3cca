-- Laid by a program of this session (wip/myprint.py) out of the translation; some contracts in it are the session's own.
import Derived.Test.YtmplmfoacnnieaaDoorPFnExactParseSchemex0
namespace Go.Proofs.YtmplmfoacnnieaaDoor.PFnExactParseScheme
open Go.RowKit Go.Proofs.YtmplmfoacnnieaaDoorW.PrintWords Go.Proofs.YtmplmfoacnnieaaDoorW.PrintLast Go.Proofs.YtmplmfoacnnieaaDoorW.PrintMore
attribute [local go_sem] max2_int min2_int max_two min_two max_three min_three max_four min_four   -- for this text's walks alone
set_option linter.unusedVariables false
set_option linter.unusedSimpArgs false

/-! ### impl_schemeText: function 42 -/
mutual
def impl_schemeText.j0 : Nat → ByteArray → ByteArray → ByteArray → List ByteArray → Option (ByteArray)
  | 0, _, _, _, _ => none
  | k + 1, x3, x155000, x155001, x155002 => impl_schemeText.l0 k x3 x155002 (x155002.length : Int) 0
def impl_schemeText.l0 : Nat → ByteArray → List ByteArray → Int → Int → Option (ByteArray)
  | 0, _, _, _, _ => none
  | k + 1, x3, x17, x18, x19 => if x19 < x18 then (if 0 ≤ x19 then (if x19 < (x17.length : Int) then (if 1 + (rdOf ByteArray.empty x17 x19).size ≤ 9223372036854775807 then (if x3.size + ((⟨#[126]⟩ : ByteArray) ++ (rdOf ByteArray.empty x17 x19)).size ≤ 9223372036854775807 then (impl_schemeText.l0 k (x3 ++ ((⟨#[126]⟩ : ByteArray) ++ (rdOf ByteArray.empty x17 x19))) x17 x18 (wrap64 (x19 + 1))) else (none)) else (none)) else (none)) else (none)) else (some x3)
end
def impl_schemeText.f (k : Nat) (a0_0 : ByteArray) (a0_1 : ByteArray) (l0_2 : List ByteArray) : Option (ByteArray) := if a0_1.toList = ([] : List UInt8) then (impl_schemeText.j0 k a0_0 a0_0 a0_1 l0_2) else (if 1 + a0_1.size ≤ 9223372036854775807 then (if a0_0.size + ((⟨#[33]⟩ : ByteArray) ++ a0_1).size ≤ 9223372036854775807 then (impl_schemeText.j0 k (a0_0 ++ ((⟨#[33]⟩ : ByteArray) ++ a0_1)) a0_0 a0_1 l0_2) else (none)) else (none))
theorem impl_schemeText.mono_l : ∀ k, (∀ y0 y1 y2 y3, LeO (impl_schemeText.j0 k y0 y1 y2 y3) (impl_schemeText.j0 (k + 1) y0 y1 y2 y3)) ∧ (∀ y0 y1 y2 y3, LeO (impl_schemeText.l0 k y0 y1 y2 y3) (impl_schemeText.l0 (k + 1) y0 y1 y2 y3))
  | 0 => ⟨fun _ _ _ _ r h => by simp [impl_schemeText.j0] at h, fun _ _ _ _ r h => by simp [impl_schemeText.l0] at h⟩
  | k + 1 => by
    obtain ⟨ih0, ih1⟩ := impl_schemeText.mono_l k
    refine ⟨?_, ?_⟩
    · intro y0 y1 y2 y3
      unfold impl_schemeText.j0
      repeat' first
      | (with_reducible exact ih0 _ _ _ _)
      | (with_reducible exact ih1 _ _ _ _)
      | (with_reducible exact LeO.refl _)
      | (with_reducible exact LeO.none _)
      | (with_reducible refine LeO.ite ?_ ?_)
      | (with_reducible refine LeO.bind ?_ (fun _ => ?_))
      | exact ih0 _ _ _ _
      | exact ih1 _ _ _ _
      | exact LeO.none _
      | refine LeO.ite ?_ ?_
      | refine LeO.bind ?_ (fun _ => ?_)
    · intro y0 y1 y2 y3
      unfold impl_schemeText.l0
      repeat' first
      | (with_reducible exact ih0 _ _ _ _)
      | (with_reducible exact ih1 _ _ _ _)
      | (with_reducible exact LeO.refl _)
      | (with_reducible exact LeO.none _)
      | (with_reducible refine LeO.ite ?_ ?_)
      | (with_reducible refine LeO.bind ?_ (fun _ => ?_))
      | exact ih0 _ _ _ _
      | exact ih1 _ _ _ _
      | exact LeO.none _
      | refine LeO.ite ?_ ?_
      | refine LeO.bind ?_ (fun _ => ?_)
theorem impl_schemeText.mono : ∀ a0 a1 a2 k, LeO (impl_schemeText.f k a0 a1 a2) (impl_schemeText.f (k + 1) a0 a1 a2) := by
  intro a0 a1 a2 k
  obtain ⟨ih0, ih1⟩ := impl_schemeText.mono_l k
  unfold impl_schemeText.f
  repeat' first
      | (with_reducible exact ih0 _ _ _ _)
      | (with_reducible exact ih1 _ _ _ _)
      | (with_reducible exact LeO.refl _)
      | (with_reducible exact LeO.none _)
      | (with_reducible refine LeO.ite ?_ ?_)
      | (with_reducible refine LeO.bind ?_ (fun _ => ?_))
      | exact ih0 _ _ _ _
      | exact ih1 _ _ _ _
      | exact LeO.none _
      | refine LeO.ite ?_ ?_
      | refine LeO.bind ?_ (fun _ => ?_)
set_option maxHeartbeats 8000000 in
set_option maxRecDepth 100000 in
theorem impl_schemeText.calls (k : Nat) (a0_0 : ByteArray) (a0_1 : ByteArray) (A0_2 : Option Addr) (c0_2 : Nat) (l0_2 : List ByteArray) (r : ByteArray) (w : World) (hr0_2 : Kd.C Kd.string w A0_2 l0_2.length l0_2) (hc0_2 : l0_2.length ≤ c0_2) (h : impl_schemeText.f k a0_0 a0_1 l0_2 = some r) :
    Calls Tryd.prog 42 #[.agg #[.string a0_0, .string a0_1, .slice A0_2 l0_2.length c0_2]] w fun e w' => e = .returned (.string r) ∧ Below w.heap.size w w' := by
  have hu28 := Tryd.underlying28
  have HR0_2 := Aside0.mk hr0_2
  have HC0_2 := Aside0.mk hc0_2
  clear hr0_2 hc0_2
  have HB := Aside0.mk (Below.refl w.heap.size w)
  have H : (if a0_1.toList = ([] : List UInt8) then (impl_schemeText.j0 k a0_0 a0_0 a0_1 l0_2) else (if 1 + a0_1.size ≤ 9223372036854775807 then (if a0_0.size + ((⟨#[33]⟩ : ByteArray) ++ a0_1).size ≤ 9223372036854775807 then (impl_schemeText.j0 k (a0_0 ++ ((⟨#[33]⟩ : ByteArray) ++ a0_1)) a0_0 a0_1 l0_2) else (none)) else (none))) = some r := h
  clear h
  have HC2 := Aside0.mk H
  clear H
  go_enter Tryd.func42, Tryd.ntmps42
  go_upto_if 10 with (first | ((with_reducible refine gate_dst (N := 1) rfl ?_); refine box_event ?hg (N := 1) ?hd (cs := #[.string a0_0, .string a0_1, .slice A0_2 l0_2.length c0_2]) (t := 28) ?hr ?_; (case hd => rfl); (case hg => rfl); (case hr => first | (go_simp; done) | (go_simp; rfl)); intro gb154 hg w3 hbox hb; have n0_ := Aside0.mk (below_step (by repeat (first | (with_reducible first | exact HB.out | apply below_alloc | apply pw_below_drewN | apply below_drew1) | exact HB.out)) hb); have n1_ := Aside0.mk (hbox); have n2_ := Aside0.mk ((by rw [hg]; exact (below_size (by repeat (first | (with_reducible first | exact HB.out | apply below_alloc | apply pw_below_drewN | apply below_drew1) | exact HB.out))) : w.heap.size ≤ gb154)); have n3_ := Aside0.mk ((by rw [hg]; exact (below_size (by repeat (first | (with_reducible first | exact HB.out | apply below_alloc | apply pw_below_drewN | apply below_drew1) | exact HB.out))) : w.heap.size ≤ gb154)); clear HB; have HB := n0_; have BK154 := n1_; have GW154 := n2_; have GE154 := n3_; clear n0_ n1_ n2_ n3_; clear hb hbox hg; have hcz4_0 : w3.cell? ⟨gb154, 0, none⟩ = some (.string a0_0) := (blk_cell BK154.out 0).trans rfl; have hcz4_1 : w3.cell? ⟨gb154, 1, none⟩ = some (.string a0_1) := (blk_cell BK154.out 1).trans rfl; have hcz4_2 : w3.cell? ⟨gb154, 2, none⟩ = some (.slice A0_2 l0_2.length c0_2) := (blk_cell BK154.out 2).trans rfl; have hfz4_0 := blk_frozen BK154.out 0; have hfz4_1 := blk_frozen BK154.out 1; have hfz4_2 := blk_frozen BK154.out 2))
  (try simp only [Act.put, List.setIfInBounds_toArray, List.set_cons_zero, List.set_cons_succ])
  go_cut [3] (fun v3 wc => ∃ (kq : Nat) (x3_1 : ByteArray), v3 = .string x3_1 ∧ Aside0 (impl_schemeText.j0 kq x3_1 a0_0 a0_1 l0_2 = some r) ∧ Aside0 (kq ≤ k) ∧ Aside0 (wc.heap[gb154]? = some (.cells #[.string a0_0, .string a0_1, (.slice A0_2 l0_2.length c0_2)] 28 (0, 0))) ∧ Aside0 (Below w.heap.size w wc))
  case first =>
    have H := HC2.out
    clear HC2
    by_cases c5 : a0_1.toList = ([] : List UInt8)
    · rw [if_pos c5] at H
      have c5b0 : (a0_1.toList == ([] : List UInt8)) = true := beq_iff_eq.mpr c5
      have c5b1 : (a0_1.toList != ([] : List UInt8)) = false := bne_eq_false_iff_eq.mpr c5
      have c5e_ : a0_1.toList.isEmpty = true := by rw [c5]; rfl
      clear c5
      (first | rw [c5b0] | rw [c5e_] | (simp only [i64_w, i32_w]; rw [c5b0]) | skip)
      have H' := Aside0.mk H
      clear H
      go_wp2
      go_meet
      case rel => exact ⟨_, (a0_0), (by first | rfl | (simp; done) | (simp [*]; done)), H', ⟨by first | omega | exact Nat.le_refl _⟩, ⟨by (with_reducible repeat (first | refine blk_drewN ?_ _ | refine blk_drew ?_ | refine blk_alloc ?_ _)); exact BK154.out⟩, ⟨by repeat (first | (with_reducible first | exact HB.out | apply below_alloc | apply pw_below_drewN | apply below_drew1 | refine below_set ?_ GE154.out) | exact HB.out)⟩⟩
    · rw [if_neg c5] at H
      have c5b0 : (a0_1.toList == ([] : List UInt8)) = false := beq_eq_false_iff_ne.mpr c5
      have c5b1 : (a0_1.toList != ([] : List UInt8)) = true := bne_iff_ne.mpr c5
      have c5e_ : a0_1.toList.isEmpty = false := by
        cases hq_ : a0_1.toList with
        | nil => exact absurd hq_ c5
        | cons _ _ => rfl
      (first | rw [c5b0] | rw [c5e_] | (simp only [i64_w, i32_w]; rw [c5b0]) | skip)
      by_cases c6 : 1 + a0_1.size ≤ 9223372036854775807
      · rw [if_pos c6] at H
        have c6b0 := eq_true c6
        have c6b1 : decide (1 + a0_1.size ≤ 9223372036854775807) = true := decide_eq_true c6
        try have c6b2 : (9223372036854775807 < 1 + a0_1.size) = False := eq_false (Nat.not_lt.2 c6)
        by_cases c7 : a0_0.size + ((⟨#[33]⟩ : ByteArray) ++ a0_1).size ≤ 9223372036854775807
        · rw [if_pos c7] at H
          have c7b0 := eq_true c7
          have c7b1 : decide (a0_0.size + ((⟨#[33]⟩ : ByteArray) ++ a0_1).size ≤ 9223372036854775807) = true := decide_eq_true c7
          try have c7b2 : (9223372036854775807 < a0_0.size + ((⟨#[33]⟩ : ByteArray) ++ a0_1).size) = False := eq_false (Nat.not_lt.2 c7)
          have H' := Aside0.mk H
          clear H
          have hcz8_0 : w3.cell? ⟨gb154, 0, none⟩ = some (.string a0_0) := (blk_cell BK154.out 0).trans rfl
          have hcz8_1 : w3.cell? ⟨gb154, 1, none⟩ = some (.string a0_1) := (blk_cell BK154.out 1).trans rfl
          have hcz8_2 : w3.cell? ⟨gb154, 2, none⟩ = some (.slice A0_2 l0_2.length c0_2) := (blk_cell BK154.out 2).trans rfl
          have hfz8_0 := blk_frozen BK154.out 0
          have hfz8_1 := blk_frozen BK154.out 1
          have hfz8_2 := blk_frozen BK154.out 2
          go_wp2
          go_meet
          case rel => exact ⟨_, (a0_0 ++ ((⟨#[33]⟩ : ByteArray) ++ a0_1)), (by first | rfl | (simp; done) | (simp [*]; done)), H', ⟨by first | omega | exact Nat.le_refl _⟩, ⟨by (with_reducible repeat (first | refine blk_drewN ?_ _ | refine blk_drew ?_ | refine blk_alloc ?_ _)); exact BK154.out⟩, ⟨by repeat (first | (with_reducible first | exact HB.out | apply below_alloc | apply pw_below_drewN | apply below_drew1 | refine below_set ?_ GE154.out) | exact HB.out)⟩⟩
        · rw [if_neg c7] at H
          exact absurd H (by simp)
      · rw [if_neg c6] at H
        exact absurd H (by simp)
  case rest =>
    clear HC2
    try clear p2
    try clear c4
    try clear c5
    try clear c5b0
    try clear c5b1
    try clear c6
    try clear c6b0
    try clear c6b1
    try clear c6b2
    try clear c7
    try clear c7b0
    try clear c7b1
    try clear c7b2
    try clear hcz4_0
    try clear hcz4_1
    try clear hcz4_2
    try clear hcz8_0
    try clear hcz8_1
    try clear hcz8_2
    try clear hfz4_0
    try clear hfz4_1
    try clear hfz4_2
    try clear hfz8_0
    try clear hfz8_1
    try clear hfz8_2
    obtain ⟨kq, x3_1, rfl, HA, HJ1, BK154, HB⟩ := hcut
    cases kq with
    | zero => exact absurd HA.out (by simp [impl_schemeText.j0])
    | succ kj1 =>
      have H := HA.out
      clear HA
      simp only [impl_schemeText.j0] at H
      have H' := Aside0.mk H
      clear H
      have hcz9_0 : wc.cell? ⟨gb154, 0, none⟩ = some (.string a0_0) := (blk_cell BK154.out 0).trans rfl
      have hcz9_1 : wc.cell? ⟨gb154, 1, none⟩ = some (.string a0_1) := (blk_cell BK154.out 1).trans rfl
      have hcz9_2 : wc.cell? ⟨gb154, 2, none⟩ = some (.slice A0_2 l0_2.length c0_2) := (blk_cell BK154.out 2).trans rfl
      have hfz9_0 := blk_frozen BK154.out 0
      have hfz9_1 := blk_frozen BK154.out 1
      have hfz9_2 := blk_frozen BK154.out 2
      go_wp2
      go_loopg [3, 19] kj1 (fun kq v3 v19 w' => ∃ (x3_2 : ByteArray) (x19_2 : Int), v3 = .string x3_2 ∧ v19 = .int .i64 x19_2 ∧ Aside0 (impl_schemeText.l0 kq x3_2 l0_2 (l0_2.length : Int) x19_2 = some r) ∧ Aside0 (kq ≤ kj1) ∧ Aside0 (w'.heap[gb154]? = some (.cells #[.string a0_0, .string a0_1, (.slice A0_2 l0_2.length c0_2)] 28 (0, 0))) ∧ Aside0 (Below w.heap.size w w'))
      case atStart => exact ⟨(x3_1), (0), (by first | rfl | (simp; done) | (simp [*]; done)), (by first | rfl | (simp; done) | (simp [*]; done)), H', ⟨Nat.le_refl _⟩, ⟨by (with_reducible repeat (first | refine blk_drewN ?_ _ | refine blk_drew ?_ | refine blk_alloc ?_ _)); exact BK154.out⟩, ⟨by repeat (first | (with_reducible first | exact HB.out | apply below_alloc | apply pw_below_drewN | apply below_drew1 | refine below_set ?_ GE154.out) | exact HB.out)⟩⟩
      case round =>
        clear H'
        try clear p2
        try clear c4
        try clear c5
        try clear c5b0
        try clear c5b1
        try clear c6
        try clear c6b0
        try clear c6b1
        try clear c6b2
        try clear c7
        try clear c7b0
        try clear c7b1
        try clear c7b2
        try clear hcz4_0
        try clear hcz4_1
        try clear hcz4_2
        try clear hcz8_0
        try clear hcz8_1
        try clear hcz8_2
        try clear hcz9_0
        try clear hcz9_1
        try clear hcz9_2
        try clear hfz4_0
        try clear hfz4_1
        try clear hfz4_2
        try clear hfz8_0
        try clear hfz8_1
        try clear hfz8_2
        try clear hfz9_0
        try clear hfz9_1
        try clear hfz9_2
        try clear p2
        obtain ⟨x3_2, x19_2, rfl, rfl, HA, HK2, BK154, HB⟩ := hrel
        cases gk with
        | zero => exact absurd HA.out (by simp [impl_schemeText.l0])
        | succ k2 =>
          have H := HA.out
          clear HA
          simp only [impl_schemeText.l0] at H
          by_cases c10 : x19_2 < (l0_2.length : Int)
          · rw [if_pos c10] at H
            have c10b0 : decide (x19_2 < (l0_2.length : Int)) = true := decide_eq_true c10
            clear c10
            by_cases c11 : 0 ≤ x19_2
            · rw [if_pos c11] at H
              have c11b0 : decide (0 ≤ x19_2) = true := decide_eq_true c11
              clear c11
              by_cases c12 : x19_2 < (l0_2.length : Int)
              · rw [if_pos c12] at H
                have c12b0 : decide (x19_2 < (l0_2.length : Int)) = true := decide_eq_true c12
                clear c12
                by_cases c13 : 1 + (rdOf ByteArray.empty l0_2 x19_2).size ≤ 9223372036854775807
                · rw [if_pos c13] at H
                  have c13b0 := eq_true c13
                  have c13b1 : decide (1 + (rdOf ByteArray.empty l0_2 x19_2).size ≤ 9223372036854775807) = true := decide_eq_true c13
                  try have c13b2 : (9223372036854775807 < 1 + (rdOf ByteArray.empty l0_2 x19_2).size) = False := eq_false (Nat.not_lt.2 c13)
                  by_cases c14 : x3_2.size + ((⟨#[126]⟩ : ByteArray) ++ (rdOf ByteArray.empty l0_2 x19_2)).size ≤ 9223372036854775807
                  · rw [if_pos c14] at H
                    have c14b0 := eq_true c14
                    have c14b1 : decide (x3_2.size + ((⟨#[126]⟩ : ByteArray) ++ (rdOf ByteArray.empty l0_2 x19_2)).size ≤ 9223372036854775807) = true := decide_eq_true c14
                    try have c14b2 : (9223372036854775807 < x3_2.size + ((⟨#[126]⟩ : ByteArray) ++ (rdOf ByteArray.empty l0_2 x19_2)).size) = False := eq_false (Nat.not_lt.2 c14)
                    have H' := Aside0.mk H
                    clear H
                    have p155 : 0 ≤ (x19_2 : Int) := of_decide_eq_true (by first | (with_reducible assumption) | assumption)
                    have q155 : x19_2 < (l0_2.length : Int) := of_decide_eq_true (by first | (with_reducible assumption) | assumption)
                    obtain ⟨ad155, e155, hx155_0⟩ := Kd.at_string HR0_2.out x19_2 p155 q155
                    cases e155
                    replace hx155_0 := (HB.out.cell (World.block_lt_of_cell? w _ hx155_0)).trans hx155_0
                    replace p155 := eq_true p155
                    replace q155 := eq_true q155
                    go_wp2
                    go_roundg k2
                    case measure => have := HJ1.out; have := HK2.out; omega
                    case rel => exact ⟨(x3_2 ++ ((⟨#[126]⟩ : ByteArray) ++ (rdOf ByteArray.empty l0_2 x19_2))), (wrap64 (x19_2 + 1)), (by first | rfl | (simp; done) | (simp [*]; done)), (by first | rfl | (simp; done) | (simp [*]; done)), H', ⟨by have := HJ1.out; have := HK2.out; omega⟩, ⟨by (with_reducible repeat (first | refine blk_drewN ?_ _ | refine blk_drew ?_ | refine blk_alloc ?_ _)); exact BK154.out⟩, ⟨by repeat (first | (with_reducible first | exact HB.out | apply below_alloc | apply pw_below_drewN | apply below_drew1 | refine below_set ?_ GE154.out) | exact HB.out)⟩⟩
                  · rw [if_neg c14] at H
                    exact absurd H (by simp)
                · rw [if_neg c13] at H
                  exact absurd H (by simp)
              · rw [if_neg c12] at H
                exact absurd H (by simp)
            · rw [if_neg c11] at H
              exact absurd H (by simp)
          · rw [if_neg c10] at H
            have c10b0 : decide (x19_2 < (l0_2.length : Int)) = false := decide_eq_false c10
            clear c10
            obtain rfl := Option.some.inj H
            go_wp2
            go_ret
            exact ⟨by first | rfl | (simp [errW_none, errW_some] <;> rfl) | (simp [*, errW_none, errW_some] <;> rfl), by repeat (first | (with_reducible first | exact HB.out | apply below_alloc | apply pw_below_drewN | apply below_drew1 | refine below_set ?_ GE154.out) | exact HB.out)⟩

/-! ### impl_within: function 48 -/
def impl_within.f (a0 : Int) (a1 : Int) (a2 : Int) : Option (Bool) := if a1 ≤ a0 then (some (decide (a0 ≤ a2))) else (some false)
set_option maxHeartbeats 8000000 in
set_option maxRecDepth 100000 in
theorem impl_within.calls (a0 : Int) (a1 : Int) (a2 : Int) (r : Bool) (w : World) (h : impl_within.f a0 a1 a2 = some r) :
    Calls Tryd.prog 48 #[.int .i64 a0, .int .i64 a1, .int .i64 a2] w fun e w' => e = .returned (.bool r) ∧ Drawn0 w w' := by
  have H : (if a1 ≤ a0 then (some (decide (a0 ≤ a2))) else (some false)) = some r := h
  clear h
  by_cases c4 : a1 ≤ a0
  · rw [if_pos c4] at H
    have c4b0 : decide (a1 ≤ a0) = true := decide_eq_true c4
    clear c4
    obtain rfl := Option.some.inj H
    go_enter Tryd.func48, Tryd.ntmps48
    go_wp2
    go_ret
    exact ⟨by first | rfl | (simp; done) | (simp [*]; done), by repeat (first | exact Drawn0.refl _ | apply Drawn0.step)⟩
  · rw [if_neg c4] at H
    have c4b0 : decide (a1 ≤ a0) = false := decide_eq_false c4
    clear c4
    obtain rfl := Option.some.inj H
    go_enter Tryd.func48, Tryd.ntmps48
    go_wp2
    go_ret
    exact ⟨by first | rfl | (simp; done) | (simp [*]; done), by repeat (first | exact Drawn0.refl _ | apply Drawn0.step)⟩

/-! ### impl_isLetter: function 78 -/
def impl_isLetter.f (a0 : Int) : Option (Bool) := if a0 ≥ 65 then (some (decide (a0 ≤ 90))) else (some false)
set_option maxHeartbeats 8000000 in
set_option maxRecDepth 100000 in
theorem impl_isLetter.calls (a0 : Int) (r : Bool) (w : World) (h : impl_isLetter.f a0 = some r) :
    Calls Tryd.prog 78 #[.int .u8 a0] w fun e w' => e = .returned (.bool r) ∧ Drawn0 w w' := by
  have H : (if a0 ≥ 65 then (some (decide (a0 ≤ 90))) else (some false)) = some r := h
  clear h
  by_cases c2 : a0 ≥ 65
  · rw [if_pos c2] at H
    have c2b0 : decide (65 ≤ a0) = true := decide_eq_true c2
    clear c2
    obtain rfl := Option.some.inj H
    go_enter Tryd.func78, Tryd.ntmps78
    go_wp2
    go_ret
    exact ⟨by first | rfl | (simp; done) | (simp [*]; done), by repeat (first | exact Drawn0.refl _ | apply Drawn0.step)⟩
  · rw [if_neg c2] at H
    have c2b0 : decide (65 ≤ a0) = false := decide_eq_false c2
    clear c2
    obtain rfl := Option.some.inj H
    go_enter Tryd.func78, Tryd.ntmps78
    go_wp2
    go_ret
    exact ⟨by first | rfl | (simp; done) | (simp [*]; done), by repeat (first | exact Drawn0.refl _ | apply Drawn0.step)⟩

/-! ### impl_areSigns: function 50 -/
def impl_areSigns.l0 : Nat → ByteArray → Int → Int → Int → Int → Option (Bool)
  | 0, _, _, _, _, _ => none
  | k + 1, x0, x1, x2, x9, x10 => if x10 < x9 then (if 0 ≤ x10 then (if x10 < (x0.size : Int) then ((impl_isLetter.f (bt x0 x10)).bind fun t156 => (if t156 = true then (impl_areSigns.l0 k x0 x1 x2 x9 (wrap64 (x10 + 1))) else (if (bt x0 x10) < 48 then (some false) else (if (bt x0 x10) > 57 then (some false) else (impl_areSigns.l0 k x0 x1 x2 x9 (wrap64 (x10 + 1))))))) else (none)) else (none)) else ((impl_within.f (x0.size : Int) x1 x2).bind fun t157 => (some t157))
def impl_areSigns.f (k : Nat) (a0 : ByteArray) (a1 : Int) (a2 : Int) : Option (Bool) := impl_areSigns.l0 k a0 a1 a2 (a0.size : Int) 0
theorem impl_areSigns.mono_l : ∀ k, (∀ y0 y1 y2 y3 y4, LeO (impl_areSigns.l0 k y0 y1 y2 y3 y4) (impl_areSigns.l0 (k + 1) y0 y1 y2 y3 y4))
  | 0 => fun _ _ _ _ _ r h => by simp [impl_areSigns.l0] at h
  | k + 1 => by
    have ih0 := impl_areSigns.mono_l k
    · intro y0 y1 y2 y3 y4
      unfold impl_areSigns.l0
      repeat' first
      | (with_reducible exact ih0 _ _ _ _ _)
      | (with_reducible exact LeO.refl _)
      | (with_reducible exact LeO.none _)
      | (with_reducible refine LeO.ite ?_ ?_)
      | (with_reducible refine LeO.bind ?_ (fun _ => ?_))
      | exact ih0 _ _ _ _ _
      | exact LeO.none _
      | refine LeO.ite ?_ ?_
      | refine LeO.bind ?_ (fun _ => ?_)
theorem impl_areSigns.mono : ∀ a0 a1 a2 k, LeO (impl_areSigns.f k a0 a1 a2) (impl_areSigns.f (k + 1) a0 a1 a2) := by
  intro a0 a1 a2 k
  have ih0 := impl_areSigns.mono_l k
  unfold impl_areSigns.f
  repeat' first
      | (with_reducible exact ih0 _ _ _ _ _)
      | (with_reducible exact LeO.refl _)
      | (with_reducible exact LeO.none _)
      | (with_reducible refine LeO.ite ?_ ?_)
      | (with_reducible refine LeO.bind ?_ (fun _ => ?_))
      | exact ih0 _ _ _ _ _
      | exact LeO.none _
      | refine LeO.ite ?_ ?_
      | refine LeO.bind ?_ (fun _ => ?_)
set_option maxHeartbeats 8000000 in
set_option maxRecDepth 100000 in
theorem impl_areSigns.calls (k : Nat) (a0 : ByteArray) (a1 : Int) (a2 : Int) (r : Bool) (w : World) (h : impl_areSigns.f k a0 a1 a2 = some r) :
    Calls Tryd.prog 50 #[.string a0, .int .i64 a1, .int .i64 a2] w fun e w' => e = .returned (.bool r) ∧ Drawn0 w w' := by
  have H : (impl_areSigns.l0 k a0 a1 a2 (a0.size : Int) 0) = some r := h
  clear h
  have H' := Aside0.mk H
  clear H
  go_enter Tryd.func50, Tryd.ntmps50
  go_wp2
  go_loopg [10] k (fun kq v10 w' => ∃ (x10_1 : Int), v10 = .int .i64 x10_1 ∧ Aside0 (impl_areSigns.l0 kq a0 a1 a2 (a0.size : Int) x10_1 = some r) ∧ Aside0 (kq ≤ k) ∧ Drawn0 w w')
  case atStart => exact ⟨(0), (by first | rfl | (simp; done) | (simp [*]; done)), H', ⟨Nat.le_refl _⟩, by repeat (first | exact Drawn0.refl _ | apply Drawn0.step)⟩
  case round =>
    clear H'
    try clear p2
    obtain ⟨x10_1, rfl, HA, HK1, ⟨m1, rfl⟩⟩ := hrel
    cases gk with
    | zero => exact absurd HA.out (by simp [impl_areSigns.l0])
    | succ k1 =>
      have H := HA.out
      clear HA
      simp only [impl_areSigns.l0] at H
      by_cases c4 : x10_1 < (a0.size : Int)
      · rw [if_pos c4] at H
        have c4b0 : decide (x10_1 < (a0.size : Int)) = true := decide_eq_true c4
        clear c4
        by_cases c5 : 0 ≤ x10_1
        · rw [if_pos c5] at H
          have c5b0 : decide (0 ≤ x10_1) = true := decide_eq_true c5
          clear c5
          by_cases c6 : x10_1 < (a0.size : Int)
          · rw [if_pos c6] at H
            have c6b0 : decide (x10_1 < (a0.size : Int)) = true := decide_eq_true c6
            clear c6
            replace H := Option.bind_eq_some_iff.mp H
            obtain ⟨t156, A80, H⟩ := H
            replace H : (if t156 = true then (impl_areSigns.l0 k1 a0 a1 a2 (a0.size : Int) (wrap64 (x10_1 + 1))) else (if (bt a0 x10_1) < 48 then (some false) else (if (bt a0 x10_1) > 57 then (some false) else (impl_areSigns.l0 k1 a0 a1 a2 (a0.size : Int) (wrap64 (x10_1 + 1)))))) = some r := H
            have A8 := Aside0.mk A80
            clear A80
            by_cases c9 : t156 = true
            · subst c9
              have H1 : (impl_areSigns.l0 k1 a0 a1 a2 (a0.size : Int) (wrap64 (x10_1 + 1))) = some r := by rw [if_pos rfl] at H; exact H
              clear H
              have H := H1
              clear H1
              have H' := Aside0.mk H
              clear H
              have p7 : 0 ≤ (x10_1 : Int) := of_decide_eq_true (by first | (with_reducible assumption) | assumption)
              have q7 : x10_1 < (a0.size : Int) := of_decide_eq_true (by first | (with_reducible assumption) | assumption)
              have hx7 := bt_at a0 x10_1
              replace p7 := eq_true p7
              replace q7 := eq_true q7
              go_wp2_with (first | ((with_reducible refine gate_callee (f := 78) rfl ?_); refine goesL_ (some 16) rfl rfl Tryd.func78 (by kernel_rfl) rfl #[.int .u8 (bt a0 x10_1)] rfl (by (try simp only [List.map_toArray, List.map_cons, List.map_nil]); first | done | rfl | (simp only [List.length_drop, List.length_take]; rfl)) ?_; (with_reducible refine (impl_isLetter.calls (bt a0 x10_1) true _ A8.out).mono ?_); rintro e w' ⟨rfl, ⟨nd, rfl⟩⟩; refine ⟨_, rfl, ?_⟩))
              go_roundg k1
              case measure => have := HK1.out; omega
              case rel => exact ⟨(wrap64 (x10_1 + 1)), (by first | rfl | (simp; done) | (simp [*]; done)), H', ⟨by have := HK1.out; omega⟩, by repeat (first | exact Drawn0.refl _ | apply Drawn0.step)⟩
            · replace c9 := Bool.eq_false_iff.mpr c9
              subst c9
              have H1 : (if (bt a0 x10_1) < 48 then (some false) else (if (bt a0 x10_1) > 57 then (some false) else (impl_areSigns.l0 k1 a0 a1 a2 (a0.size : Int) (wrap64 (x10_1 + 1))))) = some r := by rw [if_neg (show ¬ (false = true) by decide)] at H; exact H
              clear H
              have H := H1
              clear H1
              by_cases c11 : (bt a0 x10_1) < 48
              · rw [if_pos c11] at H
                have c11b0 : decide ((bt a0 x10_1) < 48) = true := decide_eq_true c11
                clear c11
                obtain rfl := Option.some.inj H
                have p7 : 0 ≤ (x10_1 : Int) := of_decide_eq_true (by first | (with_reducible assumption) | assumption)
                have q7 : x10_1 < (a0.size : Int) := of_decide_eq_true (by first | (with_reducible assumption) | assumption)
                have hx7 := bt_at a0 x10_1
                replace p7 := eq_true p7
                replace q7 := eq_true q7
                go_wp2_with (first | ((with_reducible refine gate_callee (f := 78) rfl ?_); refine goesL_ (some 16) rfl rfl Tryd.func78 (by kernel_rfl) rfl #[.int .u8 (bt a0 x10_1)] rfl (by (try simp only [List.map_toArray, List.map_cons, List.map_nil]); first | done | rfl | (simp only [List.length_drop, List.length_take]; rfl)) ?_; (with_reducible refine (impl_isLetter.calls (bt a0 x10_1) false _ A8.out).mono ?_); rintro e w' ⟨rfl, ⟨nd, rfl⟩⟩; refine ⟨_, rfl, ?_⟩; have p10 : 0 ≤ (x10_1 : Int) := of_decide_eq_true (by first | (with_reducible assumption) | assumption); have q10 : x10_1 < (a0.size : Int) := of_decide_eq_true (by first | (with_reducible assumption) | assumption); have hx10 := bt_at a0 x10_1; replace p10 := eq_true p10; replace q10 := eq_true q10))
                go_ret
                exact ⟨by first | rfl | (simp; done) | (simp [*]; done), by repeat (first | exact Drawn0.refl _ | apply Drawn0.step)⟩
              · rw [if_neg c11] at H
                have c11b0 : decide ((bt a0 x10_1) < 48) = false := decide_eq_false c11
                clear c11
                by_cases c13 : (bt a0 x10_1) > 57
                · rw [if_pos c13] at H
                  have c13b0 : decide (57 < (bt a0 x10_1)) = true := decide_eq_true c13
                  clear c13
                  obtain rfl := Option.some.inj H
                  have p7 : 0 ≤ (x10_1 : Int) := of_decide_eq_true (by first | (with_reducible assumption) | assumption)
                  have q7 : x10_1 < (a0.size : Int) := of_decide_eq_true (by first | (with_reducible assumption) | assumption)
                  have hx7 := bt_at a0 x10_1
                  replace p7 := eq_true p7
                  replace q7 := eq_true q7
                  go_wp2_with (first | ((with_reducible refine gate_callee (f := 78) rfl ?_); refine goesL_ (some 16) rfl rfl Tryd.func78 (by kernel_rfl) rfl #[.int .u8 (bt a0 x10_1)] rfl (by (try simp only [List.map_toArray, List.map_cons, List.map_nil]); first | done | rfl | (simp only [List.length_drop, List.length_take]; rfl)) ?_; (with_reducible refine (impl_isLetter.calls (bt a0 x10_1) false _ A8.out).mono ?_); rintro e w' ⟨rfl, ⟨nd, rfl⟩⟩; refine ⟨_, rfl, ?_⟩; have p10 : 0 ≤ (x10_1 : Int) := of_decide_eq_true (by first | (with_reducible assumption) | assumption); have q10 : x10_1 < (a0.size : Int) := of_decide_eq_true (by first | (with_reducible assumption) | assumption); have hx10 := bt_at a0 x10_1; replace p10 := eq_true p10; replace q10 := eq_true q10; have p12 : 0 ≤ (x10_1 : Int) := of_decide_eq_true (by first | (with_reducible assumption) | assumption); have q12 : x10_1 < (a0.size : Int) := of_decide_eq_true (by first | (with_reducible assumption) | assumption); have hx12 := bt_at a0 x10_1; replace p12 := eq_true p12; replace q12 := eq_true q12))
                  go_ret
                  exact ⟨by first | rfl | (simp; done) | (simp [*]; done), by repeat (first | exact Drawn0.refl _ | apply Drawn0.step)⟩
                · rw [if_neg c13] at H
                  have c13b0 : decide (57 < (bt a0 x10_1)) = false := decide_eq_false c13
                  clear c13
                  have H' := Aside0.mk H
                  clear H
                  have p7 : 0 ≤ (x10_1 : Int) := of_decide_eq_true (by first | (with_reducible assumption) | assumption)
                  have q7 : x10_1 < (a0.size : Int) := of_decide_eq_true (by first | (with_reducible assumption) | assumption)
                  have hx7 := bt_at a0 x10_1
                  replace p7 := eq_true p7
                  replace q7 := eq_true q7
                  go_wp2_with (first | ((with_reducible refine gate_callee (f := 78) rfl ?_); refine goesL_ (some 16) rfl rfl Tryd.func78 (by kernel_rfl) rfl #[.int .u8 (bt a0 x10_1)] rfl (by (try simp only [List.map_toArray, List.map_cons, List.map_nil]); first | done | rfl | (simp only [List.length_drop, List.length_take]; rfl)) ?_; (with_reducible refine (impl_isLetter.calls (bt a0 x10_1) false _ A8.out).mono ?_); rintro e w' ⟨rfl, ⟨nd, rfl⟩⟩; refine ⟨_, rfl, ?_⟩; have p10 : 0 ≤ (x10_1 : Int) := of_decide_eq_true (by first | (with_reducible assumption) | assumption); have q10 : x10_1 < (a0.size : Int) := of_decide_eq_true (by first | (with_reducible assumption) | assumption); have hx10 := bt_at a0 x10_1; replace p10 := eq_true p10; replace q10 := eq_true q10; have p12 : 0 ≤ (x10_1 : Int) := of_decide_eq_true (by first | (with_reducible assumption) | assumption); have q12 : x10_1 < (a0.size : Int) := of_decide_eq_true (by first | (with_reducible assumption) | assumption); have hx12 := bt_at a0 x10_1; replace p12 := eq_true p12; replace q12 := eq_true q12))
                  go_roundg k1
                  case measure => have := HK1.out; omega
                  case rel => exact ⟨(wrap64 (x10_1 + 1)), (by first | rfl | (simp; done) | (simp [*]; done)), H', ⟨by have := HK1.out; omega⟩, by repeat (first | exact Drawn0.refl _ | apply Drawn0.step)⟩
          · rw [if_neg c6] at H
            exact absurd H (by simp)
        · rw [if_neg c5] at H
          exact absurd H (by simp)
      · rw [if_neg c4] at H
        have c4b0 : decide (x10_1 < (a0.size : Int)) = false := decide_eq_false c4
        clear c4
        replace H := Option.bind_eq_some_iff.mp H
        obtain ⟨t157, A140, H⟩ := H
        replace H : (some t157) = some r := H
        have A14 := Aside0.mk A140
        clear A140
        obtain rfl := Option.some.inj H
        go_wp2_with (first | ((with_reducible refine gate_callee (f := 48) rfl ?_); refine goesL_ (some 35) rfl rfl Tryd.func48 (by kernel_rfl) rfl #[.int .i64 (a0.size : Int), .int .i64 a1, .int .i64 a2] rfl (by (try simp only [List.map_toArray, List.map_cons, List.map_nil]); first | done | rfl | (simp only [List.length_drop, List.length_take]; rfl)) ?_; (with_reducible refine (impl_within.calls (a0.size : Int) a1 a2 t157 _ A14.out).mono ?_); rintro e w' ⟨rfl, ⟨nd, rfl⟩⟩; refine ⟨_, rfl, ?_⟩))
        go_ret
        exact ⟨by first | rfl | (simp; done) | (simp [*]; done), by repeat (first | exact Drawn0.refl _ | apply Drawn0.step)⟩

/-- A state of type 28 at block g of W; what its slices lead to came in by w0. -/
def IsS28 (w0 W : World) (g : Nat) (f0 : ByteArray) (f1 : ByteArray) (f2 : List ByteArray) : Prop := ∃ A2 c2, W.heap[g]? = some (.cells #[.string f0, .string f1, .slice A2 f2.length c2] 28 (0, 0)) ∧ w0.heap.size ≤ g ∧ Kd.C Kd.string w0 A2 f2.length f2
theorem IsS28.grown {w0 W : World} {g : Nat} {f0 : ByteArray} {f1 : ByteArray} {f2 : List ByteArray} {W1 : World} {row : Option Nat} (h : IsS28 w0 W g f0 f1 f2) (hw : W.grownBy W1 row) (hne : some g ≠ row) : IsS28 w0 W1 g f0 f1 f2 := by
  obtain ⟨A2, c2, hb, hg, hr2⟩ := h
  exact ⟨A2, c2, blk_grown hb hw hne, hg, hr2⟩
theorem IsS28.own_neN {w0 W : World} {g : Nat} {f0 : ByteArray} {f1 : ByteArray} {f2 : List ByteArray} {α : Type} {d : Kd α} {e : Nat} {base : Nat} {ok : Nat → Prop} {v : Value} {xs : List α} (h : IsS28 w0 W g f0 f1 f2) (ho : Kd.N d e W base ok v xs) (ht : e ≠ 28) : some g ≠ v.ownBlock := by
  obtain ⟨A2, c2, hb, hg, hr2⟩ := h
  exact Kd.N_ne ho hb ht
theorem IsS28.fresh {w0 W : World} {g : Nat} {f0 : ByteArray} {f1 : ByteArray} {f2 : List ByteArray} (h : IsS28 w0 W g f0 f1 f2) : ∀ k, W.heap.size ≤ k → k ≠ g := by
  obtain ⟨A2, c2, hb, hg, hr2⟩ := h
  exact Kd.freshB hb
theorem IsS28.kept {w0 W : World} {g : Nat} {f0 : ByteArray} {f1 : ByteArray} {f2 : List ByteArray} {W1 : World} {S : Nat → Prop} (h : IsS28 w0 W g f0 f1 f2) (hk : Kept W W1 S) (hne : ¬ S g) : IsS28 w0 W1 g f0 f1 f2 := by
  obtain ⟨A2, c2, hb, hg, hr2⟩ := h
  exact ⟨A2, c2, blk_kept hb hk hne, hg, hr2⟩
theorem IsS28.below {w0 W : World} {g : Nat} {f0 : ByteArray} {f1 : ByteArray} {f2 : List ByteArray} {W1 : World} (h : IsS28 w0 W g f0 f1 f2) (hw : Below W.heap.size W W1) : IsS28 w0 W1 g f0 f1 f2 := h.grown (grown_of_below hw none) (by simp)
theorem IsS28.alloc {w0 W : World} {g : Nat} {f0 : ByteArray} {f1 : ByteArray} {f2 : List ByteArray} (h : IsS28 w0 W g f0 f1 f2) (o : Obj) : IsS28 w0 (W.alloc o) g f0 f1 f2 := h.below (below_alloc (Below.refl _ _) o)
theorem IsS28.drewN {w0 W : World} {g : Nat} {f0 : ByteArray} {f1 : ByteArray} {f2 : List ByteArray} (h : IsS28 w0 W g f0 f1 f2) (m : Nat) : IsS28 w0 (W.drewN m) g f0 f1 f2 := h
theorem IsS28.drew {w0 W : World} {g : Nat} {f0 : ByteArray} {f1 : ByteArray} {f2 : List ByteArray} (h : IsS28 w0 W g f0 f1 f2) : IsS28 w0 W.drew g f0 f1 f2 := h
theorem IsS28.at_ {w0 W : World} {g : Nat} {f0 : ByteArray} {f1 : ByteArray} {f2 : List ByteArray} {w' : World} {m : Nat} (hq : W.drewN m = w') (h : IsS28 w0 W g f0 f1 f2) : IsS28 w0 w' g f0 f1 f2 := by subst hq; exact IsS28.drewN h m
theorem IsS28.apart {w0 W : World} {g : Nat} {f0 : ByteArray} {f1 : ByteArray} {f2 : List ByteArray} {α : Type} {d : Kd α} {e : Nat} {base : Nat} {ok : Nat → Prop} {v : Value} {xs : List α} (h : IsS28 w0 W g f0 f1 f2) (ho : d.R e W base ok v xs) (ht : ∀ q, q ∈ e :: d.E → q ≠ 28) : d.R e W base (fun k => ok k ∧ k ≠ g) v xs := by
  obtain ⟨A2, c2, hb, hg, hr2⟩ := h
  exact Kd.R_types ho hb ht
theorem IsS28.own_ne {w0 W : World} {g : Nat} {f0 : ByteArray} {f1 : ByteArray} {f2 : List ByteArray} {α : Type} {d : Kd α} {e : Nat} {base : Nat} {ok : Nat → Prop} {v : Value} {xs : List α} (h : IsS28 w0 W g f0 f1 f2) (ho : d.R e W base ok v xs) (ht : e ≠ 28) : some g ≠ v.ownBlock := by
  obtain ⟨A2, c2, hb, hg, hr2⟩ := h
  exact Kd.R_ne ho hb ht
theorem IsS28.apartQ {w0 W : World} {g : Nat} {f0 : ByteArray} {f1 : ByteArray} {f2 : List ByteArray} {α : Type} {d : Kd α} {e : Nat} {base : Nat} {ok : Nat → Prop} {v : Value} {xs : List α} (h : IsS28 w0 W g f0 f1 f2) (ho : d.Q e W base ok v xs) (ht : ∀ q, q ∈ e :: d.E → q ≠ 28) : d.Q e W base (fun k => ok k ∧ k ≠ g) v xs := by
  obtain ⟨A2, c2, hb, hg, hr2⟩ := h
  exact Kd.Q_types ho hb ht
theorem IsS28.own_neQ {w0 W : World} {g : Nat} {f0 : ByteArray} {f1 : ByteArray} {f2 : List ByteArray} {α : Type} {d : Kd α} {e : Nat} {base : Nat} {ok : Nat → Prop} {v : Value} {xs : List α} (h : IsS28 w0 W g f0 f1 f2) (ho : d.Q e W base ok v xs) (ht : e ≠ 28) : some g ≠ v.ownBlock := by
  obtain ⟨A2, c2, hb, hg, hr2⟩ := h
  exact Kd.Q_ne ho hb ht
theorem IsS28.apartS {w0 W : World} {g : Nat} {f0 : ByteArray} {f1 : ByteArray} {f2 : List ByteArray} {α : Type} {d : Kd α} {e : Nat} {base : Nat} {ok : Nat → Prop} {v : Value} {xs : List α} (h : IsS28 w0 W g f0 f1 f2) (ho : d.S e W base ok v xs) (ht : ∀ q, q ∈ e :: d.E → q ≠ 28) : d.S e W base (fun k => ok k ∧ k ≠ g) v xs := by
  obtain ⟨A2, c2, hb, hg, hr2⟩ := h
  exact Kd.S_types ho hb ht
theorem IsS28.own_neS {w0 W : World} {g : Nat} {f0 : ByteArray} {f1 : ByteArray} {f2 : List ByteArray} {α : Type} {d : Kd α} {e : Nat} {base : Nat} {ok : Nat → Prop} {v : Value} {xs : List α} (h : IsS28 w0 W g f0 f1 f2) (ho : d.S e W base ok v xs) (ht : e ≠ 28) : some g ≠ v.ownBlock := by
  obtain ⟨A2, c2, hb, hg, hr2⟩ := h
  exact Kd.S_ne ho hb ht
theorem IsS28.lt {w0 W : World} {g : Nat} {f0 : ByteArray} {f1 : ByteArray} {f2 : List ByteArray} (h : IsS28 w0 W g f0 f1 f2) : g < W.heap.size := by
  obtain ⟨A2, c2, hb, hg, hr2⟩ := h
  exact blk_lt hb
theorem IsS28.ge {w0 W : World} {g : Nat} {f0 : ByteArray} {f1 : ByteArray} {f2 : List ByteArray} (h : IsS28 w0 W g f0 f1 f2) : w0.heap.size ≤ g := by
  obtain ⟨A2, c2, hb, hg, hr2⟩ := h
  exact hg
theorem IsS28.ne_blk {w0 W : World} {g : Nat} {f0 : ByteArray} {f1 : ByteArray} {f2 : List ByteArray} {a : Nat} {cs : Array Value} {t : TypeId} {fr : Nat × Nat} (h : IsS28 w0 W g f0 f1 f2) (hb2 : W.heap[a]? = some (.cells cs t fr)) (ht : t ≠ 28) : g ≠ a := by
  obtain ⟨A2, c2, hb, hg, hr2⟩ := h
  rintro rfl
  rw [hb] at hb2
  injection hb2 with hb2
  injection hb2 with _ ht2
  exact ht ht2.symm
theorem IsS28.far {w0 W : World} {g : Nat} {f0 : ByteArray} {f1 : ByteArray} {f2 : List ByteArray} {p : Addr} (h : IsS28 w0 W g f0 f1 f2) (hne : g ≠ p.block) (u : Value) : IsS28 w0 (W.setCell p u) g f0 f1 f2 := by
  obtain ⟨A2, c2, hb, hg, hr2⟩ := h
  exact ⟨A2, c2, blk_far hb hne u, hg, hr2⟩
theorem cellS28_0 {W : World} {g : Nat} {A2 : Option Addr} {c2 : Nat} {f0 : ByteArray} {f1 : ByteArray} {f2 : List ByteArray} (h : W.heap[g]? = some (.cells #[.string f0, .string f1, .slice A2 f2.length c2] 28 (0, 0))) : W.cell? ⟨g, 0, none⟩ = some (.string f0) := (blk_cell h 0).trans rfl
theorem IsS28.set_0 {w0 W : World} {g : Nat} {f0 : ByteArray} {f1 : ByteArray} {f2 : List ByteArray} (h : IsS28 w0 W g f0 f1 f2) (x : ByteArray) : IsS28 w0 (W.setCell ⟨g, 0, none⟩ (.string x)) g x f1 f2 := by
  obtain ⟨A2, c2, hb, hg, hr2⟩ := h
  exact ⟨A2, c2, by simpa using blk_set hb 0 (.string x), hg, hr2⟩
theorem cellS28_1 {W : World} {g : Nat} {A2 : Option Addr} {c2 : Nat} {f0 : ByteArray} {f1 : ByteArray} {f2 : List ByteArray} (h : W.heap[g]? = some (.cells #[.string f0, .string f1, .slice A2 f2.length c2] 28 (0, 0))) : W.cell? ⟨g, 1, none⟩ = some (.string f1) := (blk_cell h 1).trans rfl
theorem IsS28.set_1 {w0 W : World} {g : Nat} {f0 : ByteArray} {f1 : ByteArray} {f2 : List ByteArray} (h : IsS28 w0 W g f0 f1 f2) (x : ByteArray) : IsS28 w0 (W.setCell ⟨g, 1, none⟩ (.string x)) g f0 x f2 := by
  obtain ⟨A2, c2, hb, hg, hr2⟩ := h
  exact ⟨A2, c2, by simpa using blk_set hb 1 (.string x), hg, hr2⟩
theorem cellS28_2 {W : World} {g : Nat} {A2 : Option Addr} {c2 : Nat} {f0 : ByteArray} {f1 : ByteArray} {f2 : List ByteArray} (h : W.heap[g]? = some (.cells #[.string f0, .string f1, .slice A2 f2.length c2] 28 (0, 0))) : W.cell? ⟨g, 2, none⟩ = some (.slice A2 f2.length c2) := (blk_cell h 2).trans rfl
theorem IsS28.new (w0 W : World) (A2 : Option Addr) (c2 : Nat) (f0 : ByteArray) (f1 : ByteArray) (f2 : List ByteArray) (hB : Below w0.heap.size w0 W) (hr2 : Kd.C Kd.string w0 A2 f2.length f2) : IsS28 w0 (W.alloc (.cells #[.string f0, .string f1, .slice A2 f2.length c2] 28)) W.heap.size f0 f1 f2 := ⟨A2, c2, by simpa using heap_alloc_new W _, hB.size, hr2⟩
/-! ### impl_IsScheme: function 22 -/
-- --making
-- included signsT
theorem wrapid_ {x : Int} (h0 : -9223372036854775808 ≤ x) (h1 : x < 9223372036854775808) : wrap64 x = x := by
  unfold wrap64
  omega
theorem impl_letter_ (c : Int) : impl_isLetter.f c = some (decide (65 ≤ c) && decide (c ≤ 90)) := by
  unfold impl_isLetter.f
  by_cases h : c ≥ 65
  · rw [if_pos h]; simp [h]
  · rw [if_neg h]; simp; omega
theorem impl_signs_l0_ (s : ByteArray) (lo hi : Int) (hn : s.size ≤ 1048576) : ∀ (d i k : Nat), i + d = s.size → d < k →
    impl_areSigns.l0 k s lo hi s.size i = some (allS s d i && (decide (lo ≤ s.size) && decide ((s.size : Int) ≤ hi)))
  | 0, i, k, h, hk => by
    obtain ⟨k, rfl⟩ : ∃ m, k = m + 1 := ⟨k - 1, by omega⟩
    simp only [impl_areSigns.l0, allS]
    rw [if_neg (by omega)]
    unfold impl_within.f
    by_cases c : lo ≤ (s.size : Int)
    · rw [if_pos c]; simp [c]
    · rw [if_neg c]; simp [c]
  | d + 1, i, k, h, hk => by
    obtain ⟨k, rfl⟩ : ∃ m, k = m + 1 := ⟨k - 1, by omega⟩
    simp only [impl_areSigns.l0, allS]
    rw [if_pos (by omega), if_pos (by omega), if_pos (by omega), impl_letter_]
    simp only [Option.bind_some]
    rw [wrapid_ (by omega) (by omega)]
    have ih := impl_signs_l0_ s lo hi hn d (i + 1) k (by omega) (by omega)
    by_cases c : 65 ≤ bt s i ∧ bt s i ≤ 90
    · rw [if_pos (by simp [c.1, c.2])]
      rw [show ((i : Int) + 1) = ((i + 1 : Nat) : Int) by omega, ih]
      simp [sgnB, c.1, c.2]
    · rw [if_neg (by simpa using c)]
      by_cases c1 : bt s i < 48
      · rw [if_pos c1]
        congr 1
        have : sgnB (bt s i) = false := by simp [sgnB]; omega
        rw [this]; rfl
      · rw [if_neg c1]
        by_cases c2 : bt s i > 57
        · rw [if_pos c2]
          congr 1
          have : sgnB (bt s i) = false := by simp [sgnB]; omega
          rw [this]; rfl
        · rw [if_neg c2, show ((i : Int) + 1) = ((i + 1 : Nat) : Int) by omega, ih]
          have : sgnB (bt s i) = true := by simp [sgnB]; omega
          rw [this]; rfl
theorem impl_signs_ (s : ByteArray) (lo hi : Int) (hn : s.size ≤ 1048576) (k : Nat) (hk : s.size < k) : impl_areSigns.f k s lo hi = some (signsB s lo hi) := by
  unfold impl_areSigns.f signsB
  have := impl_signs_l0_ s lo hi hn s.size 0 k (by omega) hk
  rw [show ((0 : Nat) : Int) = 0 from rfl] at this
  rw [this, Bool.and_comm]

set_option maxHeartbeats 2000000 in
set_option maxRecDepth 100000 in
theorem anyW_calls (A : Option Addr) (c : Nat) (l : List ByteArray) (w : World) (hr : Kd.C Kd.string w A l.length l) (hl : l.length ≤ 1048576) (hsz : ∀ x ∈ l, x.size ≤ 1048576) :
    Calls Tryd.prog 51 #[.slice A l.length c, .func (.func 52) #[] #[]] w fun e w' => e = .returned (.bool (l.any fun x => !signsB x 1 4)) ∧ ∃ q, w' = w.drewN q := by
  rcases Nat.eq_zero_or_pos l.length with h0 | h0
  · have : l = [] := List.length_eq_zero_iff.mp h0
    subst this
    exact (Tryd.slices_ContainsFunc_empty (α := Nat) A c _ w).mono fun e w' ⟨he, hw⟩ => ⟨he, 0, hw⟩
  · obtain ⟨b, off, rfl, hc⟩ := kdC_cells hr h0
    haveI : Inhabited {x : ByteArray // x.size ≤ 1048576} := ⟨⟨ByteArray.empty, by decide⟩⟩
    have hlen : (l.pmap (fun x h => (⟨x, h⟩ : {x : ByteArray // x.size ≤ 1048576})) hsz).length = l.length := List.length_pmap
    have hp : PredAt Tryd.prog 52 #[] (fun x : {x : ByteArray // x.size ≤ 1048576} => Value.string x.1) (fun x => !signsB x.1 1 4) w := by
      intro W x _
      have HS := Aside0.mk (impl_signs_ x.1 1 4 x.2 (x.1.size + 1) (Nat.lt_succ_self _))
      obtain ⟨x, hx⟩ := x
      show Calls _ _ #[.string x] W _
      replace HS : Aside0 (impl_areSigns.f (x.size + 1) x 1 4 = some (signsB x 1 4)) := HS
      go_enter Tryd.func52, Tryd.ntmps52
      go_wp2_with (go_at_call 50; (with_reducible refine (impl_areSigns.calls (x.size + 1) x 1 4 (signsB x 1 4) _ HS.out).mono ?_); rintro e w' ⟨rfl, ⟨nd, rfl⟩⟩)
      go_ret
      exact ⟨rfl, _, rfl⟩
    have hres := Tryd.slices_ContainsFunc (fun x : {x : ByteArray // x.size ≤ 1048576} => Value.string x.1) (fun x => !signsB x.1 1 4) 52 #[] (enters_of Tryd.func52 (by kernel_rfl) rfl) b off l.length c (l.pmap (fun x h => (⟨x, h⟩ : {x : ByteArray // x.size ≤ 1048576})) hsz) w hp (by rw [hlen]; exact Nat.le_refl _) (by omega) (fun j hj => by
      rw [hlen] at hj
      rw [hc j hj, getElem!_pos _ j (by rw [hlen]; exact hj), List.getElem_pmap])
    have hany : ∀ (m : List ByteArray) (h : ∀ x ∈ m, x.size ≤ 1048576), (m.pmap (fun x h => (⟨x, h⟩ : {x : ByteArray // x.size ≤ 1048576})) h).any (fun x => !signsB x.1 1 4) = m.any fun x => !signsB x 1 4 := by
      intro m
      induction m with
      | nil => intro _; rfl
      | cons a m ih => intro h; rw [List.pmap_cons, List.any_cons, List.any_cons, ih]
    refine hres.mono ?_
    rintro e w' ⟨rfl, q, rfl⟩
    refine ⟨?_, q, rfl⟩
    rw [← hany l hsz, ← hlen, List.take_length]
def impl_IsScheme.f (p b : ByteArray) (ws : List ByteArray) : Option Bool := if smallS p b ws = true then some (isSchT p b ws) else none
set_option maxHeartbeats 4000000 in
set_option maxRecDepth 100000 in
theorem impl_IsScheme.calls (a0_0 : ByteArray) (a0_1 : ByteArray) (A0_2 : Option Addr) (c0_2 : Nat) (l0_2 : List ByteArray) (r : Bool) (w : World) (hr0_2 : Kd.C Kd.string w A0_2 l0_2.length l0_2) (hc0_2 : l0_2.length ≤ c0_2) (h : impl_IsScheme.f a0_0 a0_1 l0_2 = some r) :
    Calls Tryd.prog 22 #[.agg #[.string a0_0, .string a0_1, .slice A0_2 l0_2.length c0_2]] w fun e w' => e = .returned (.bool r) ∧ Below w.heap.size w w' := by
  unfold impl_IsScheme.f at h
  by_cases hsm : smallS a0_0 a0_1 l0_2 = true
  case neg => rw [if_neg hsm] at h; cases h
  rw [if_pos hsm] at h
  have hR := Option.some.inj h
  simp only [smallS, Bool.and_eq_true, decide_eq_true_eq, List.all_eq_true] at hsm
  obtain ⟨⟨⟨hs0, hs1⟩, hs2⟩, hs3⟩ := hsm
  have HA := Aside0.mk (fun (W : World) (hb : Below w.heap.size w W) => anyW_calls A0_2 c0_2 l0_2 W (Kd.C_below hr0_2 hb) hs2 hs3)
  have HS0 := Aside0.mk hs0
  have HS1 := Aside0.mk hs1
  have HS2 := Aside0.mk hs2
  have HR := Aside0.mk hR
  have HG := Aside0.mk (impl_signs_ a0_1 0 36 hs1 (a0_1.size + 1) (Nat.lt_succ_self _))
  have HW := Aside0.mk (show impl_within.f (a0_0.size : Int) 1 8 = some (decide (1 ≤ (a0_0.size : Int)) && decide ((a0_0.size : Int) ≤ 8)) by
    unfold impl_within.f
    by_cases c : 1 ≤ (a0_0.size : Int)
    · rw [if_pos c]; simp [c]
    · rw [if_neg c]; simp [c])
  obtain ⟨z, hz⟩ : ∃ z, z = trimZ a0_0 := ⟨_, rfl⟩
  have HT := Aside0.mk (fun W : World => (show Calls Tryd.prog 49 #[.string a0_0, .string (⟨#[76, 68]⟩ : ByteArray)] W fun e w' => e = .returned (.string z) ∧ Below W.heap.size W w' by
    rw [hz]
    exact Tryd.strings_Trim_laid a0_0 (⟨#[76, 68]⟩ : ByteArray) W (by omega) (by decide) (ascii_of_all (by decide))))
  have HZ := Aside0.mk hz
  clear hz
  clear hr0_2 hc0_2 h hR hs0 hs1 hs2 hs3
  go_enter Tryd.func22, Tryd.ntmps22
  go_wp2_with ((with_reducible refine gate_dst (N := 1) rfl ?_); refine box_event ?hg (N := 1) ?hd (cs := #[.string a0_0, .string a0_1, .slice A0_2 l0_2.length c0_2]) (t := 28) ?hr ?_; (case hd => rfl); (case hg => rfl); (case hr => first | (go_simp; done) | (go_simp; rfl)); intro B1 hg1 w1 hx1 hb1; have HX1 := Aside0.mk hx1; have HB1 := Aside0.mk hb1; clear hg1 hx1 hb1)
  go_loopg [3] (a0_1.size - 1) (fun d v3 w' => ∃ i : Int, v3 = .int .i64 i ∧ Aside0 (1 ≤ i ∧ (i + d = (a0_1.size : Int) ∨ (d = 0 ∧ (a0_1.size : Int) ≤ i))) ∧ Aside0 (risesL d a0_1 i = risesL (a0_1.size - 1) a0_1 1) ∧ Aside0 (w'.heap[B1]? = some (.cells #[.string a0_0, .string a0_1, .slice A0_2 l0_2.length c0_2] 28 (0, 0))) ∧ Aside0 (Below w.heap.size w w'))
  case atStart => exact ⟨1, rfl, ⟨by omega, by omega⟩, ⟨rfl⟩, HX1, HB1⟩
  case round =>
    clear HX1 HB1
    obtain ⟨i, rfl, HI, HQ, HX, HB⟩ := hrel
    have hcz0 : wr.cell? ⟨B1, 0, none⟩ = some (.string a0_0) := (blk_cell HX.out 0).trans rfl
    have hcz1 : wr.cell? ⟨B1, 1, none⟩ = some (.string a0_1) := (blk_cell HX.out 1).trans rfl
    have hcz2 : wr.cell? ⟨B1, 2, none⟩ = some (.slice A0_2 l0_2.length c0_2) := (blk_cell HX.out 2).trans rfl
    cases gk with
    | succ k1 =>
      have hlt : i < (a0_1.size : Int) := by have := HI.out; omega
      obtain ⟨ji, hji⟩ : ∃ j : Int, i - 1 = j := ⟨_, rfl⟩
      have hjiw : IntKind.i64.wrap (i - 1) = ji := (i64_w _).trans (by have := HI.out; have := HS1.out; unfold wrap64; omega)
      have p1 := eq_true (show 0 ≤ ji by have := HI.out; omega)
      have q1 := eq_true (show ji < (a0_1.size : Int) by omega)
      have hx1 := bt_at a0_1 ji
      have p0 := eq_true (show 0 ≤ i by have := HI.out; omega)
      have q0 := eq_true hlt
      have hx0 := bt_at a0_1 i
      have hc : decide (i < (a0_1.size : Int)) = true := decide_eq_true hlt
      have HJI := Aside0.mk hji
      clear hlt hji
      by_cases c : bt a0_1 i ≤ bt a0_1 ji
      · have c1 : decide (bt a0_1 i ≤ bt a0_1 ji) = true := decide_eq_true c
        have hz : isSchT a0_0 a0_1 l0_2 = false := by
          have := HQ.out
          rw [risesL, HJI.out, if_pos c] at this
          unfold isSchT
          rw [← this]; rfl
        have HR2 := Aside0.mk (hz.symm.trans HR.out)
        clear hz c HR
        obtain rfl := HR2.out
        go_wp2
        repeat (go_quiet (fail); try go_wp2)
        go_ret
        exact ⟨rfl, by repeat (first | (with_reducible first | exact HB.out | apply below_alloc | apply pw_below_drewN | apply below_drew1) | exact HB.out)⟩
      · have c1 : decide (bt a0_1 i ≤ bt a0_1 ji) = false := decide_eq_false c
        have HQ2 := Aside0.mk (show risesL k1 a0_1 (i + 1) = risesL (a0_1.size - 1) a0_1 1 by
          have := HQ.out
          rw [risesL, HJI.out, if_neg c] at this
          exact this)
        clear HQ c
        go_wp2
        repeat (go_quiet (fail); try go_wp2)
        go_roundg k1
        case measure => omega
        case rel => exact ⟨i + 1, congrArg (Value.int .i64) (by have := HI.out; have := HS1.out; unfold wrap64; omega), ⟨by have := HI.out; omega, by have := HI.out; omega⟩, HQ2, ⟨by (with_reducible repeat (first | refine blk_drewN ?_ _ | refine blk_drew ?_ | refine blk_alloc ?_ _)); exact HX.out⟩, ⟨by repeat (first | (with_reducible first | exact HB.out | apply below_alloc | apply pw_below_drewN | apply below_drew1) | exact HB.out)⟩⟩
    | zero =>
      have hc : decide (i < (a0_1.size : Int)) = false := decide_eq_false (by have := HI.out; omega)
      have HRS := Aside0.mk (show risesL (a0_1.size - 1) a0_1 1 = true from HQ.out.symm)
      clear HQ
      have HR := Aside0.mk (show ((decide (1 ≤ (a0_0.size : Int)) && decide ((a0_0.size : Int) ≤ 8)) && ((z.toList == ([] : List UInt8)) && (signsB a0_1 0 36 && (decide (l0_2.length ≤ 3) && !(l0_2.any fun x => !signsB x 1 4))))) = r by
        rw [HZ.out]
        have := HR.out
        unfold isSchT at this
        rw [HRS.out, Bool.true_and] at this
        exact this)
      clear HRS HZ
      cases hx1 : (decide (1 ≤ (a0_0.size : Int)) && decide ((a0_0.size : Int) ≤ 8)) with
      | false =>
        rw [hx1] at HW HR
        clear hx1
        go_wp2_with (first | (go_at_call 48; (with_reducible refine (impl_within.calls (a0_0.size : Int) 1 8 _ _ HW.out).mono ?_); rintro e w' ⟨rfl, ⟨nd, rfl⟩⟩) | (go_at_call 49; (with_reducible refine (HT.out _).mono ?_); rintro e w2 ⟨rfl, hb2⟩; have HX2 := Aside0.mk (blk_below (by (with_reducible repeat (first | refine blk_drewN ?_ _ | refine blk_drew ?_ | refine blk_alloc ?_ _)); exact HX.out) hb2); have HB2 := Aside0.mk (below_step (by repeat (first | (with_reducible first | exact HB.out | apply below_alloc | apply pw_below_drewN | apply below_drew1) | exact HB.out)) hb2); have hcy0 : w2.cell? ⟨B1, 0, none⟩ = some (.string a0_0) := (blk_cell HX2.out 0).trans rfl; have hcy1 : w2.cell? ⟨B1, 1, none⟩ = some (.string a0_1) := (blk_cell HX2.out 1).trans rfl; have hcy2 : w2.cell? ⟨B1, 2, none⟩ = some (.slice A0_2 l0_2.length c0_2) := (blk_cell HX2.out 2).trans rfl; clear hb2) | (go_at_call 50; (with_reducible refine (impl_areSigns.calls (a0_1.size + 1) a0_1 0 36 _ _ HG.out).mono ?_); rintro e w' ⟨rfl, ⟨nd2, rfl⟩⟩) | (go_at_call 51; (with_reducible refine (HA.out _ (by repeat (first | (with_reducible first | exact HB2.out | apply below_alloc | apply pw_below_drewN | apply below_drew1) | exact HB2.out))).mono ?_); rintro e w' ⟨rfl, ⟨nd3, rfl⟩⟩))
        repeat (go_quiet (first | (go_at_call 48; (with_reducible refine (impl_within.calls (a0_0.size : Int) 1 8 _ _ HW.out).mono ?_); rintro e w' ⟨rfl, ⟨nd, rfl⟩⟩) | (go_at_call 49; (with_reducible refine (HT.out _).mono ?_); rintro e w2 ⟨rfl, hb2⟩; have HX2 := Aside0.mk (blk_below (by (with_reducible repeat (first | refine blk_drewN ?_ _ | refine blk_drew ?_ | refine blk_alloc ?_ _)); exact HX.out) hb2); have HB2 := Aside0.mk (below_step (by repeat (first | (with_reducible first | exact HB.out | apply below_alloc | apply pw_below_drewN | apply below_drew1) | exact HB.out)) hb2); have hcy0 : w2.cell? ⟨B1, 0, none⟩ = some (.string a0_0) := (blk_cell HX2.out 0).trans rfl; have hcy1 : w2.cell? ⟨B1, 1, none⟩ = some (.string a0_1) := (blk_cell HX2.out 1).trans rfl; have hcy2 : w2.cell? ⟨B1, 2, none⟩ = some (.slice A0_2 l0_2.length c0_2) := (blk_cell HX2.out 2).trans rfl; clear hb2) | (go_at_call 50; (with_reducible refine (impl_areSigns.calls (a0_1.size + 1) a0_1 0 36 _ _ HG.out).mono ?_); rintro e w' ⟨rfl, ⟨nd2, rfl⟩⟩) | (go_at_call 51; (with_reducible refine (HA.out _ (by repeat (first | (with_reducible first | exact HB2.out | apply below_alloc | apply pw_below_drewN | apply below_drew1) | exact HB2.out))).mono ?_); rintro e w' ⟨rfl, ⟨nd3, rfl⟩⟩)); try go_wp2_with (first | (go_at_call 48; (with_reducible refine (impl_within.calls (a0_0.size : Int) 1 8 _ _ HW.out).mono ?_); rintro e w' ⟨rfl, ⟨nd, rfl⟩⟩) | (go_at_call 49; (with_reducible refine (HT.out _).mono ?_); rintro e w2 ⟨rfl, hb2⟩; have HX2 := Aside0.mk (blk_below (by (with_reducible repeat (first | refine blk_drewN ?_ _ | refine blk_drew ?_ | refine blk_alloc ?_ _)); exact HX.out) hb2); have HB2 := Aside0.mk (below_step (by repeat (first | (with_reducible first | exact HB.out | apply below_alloc | apply pw_below_drewN | apply below_drew1) | exact HB.out)) hb2); have hcy0 : w2.cell? ⟨B1, 0, none⟩ = some (.string a0_0) := (blk_cell HX2.out 0).trans rfl; have hcy1 : w2.cell? ⟨B1, 1, none⟩ = some (.string a0_1) := (blk_cell HX2.out 1).trans rfl; have hcy2 : w2.cell? ⟨B1, 2, none⟩ = some (.slice A0_2 l0_2.length c0_2) := (blk_cell HX2.out 2).trans rfl; clear hb2) | (go_at_call 50; (with_reducible refine (impl_areSigns.calls (a0_1.size + 1) a0_1 0 36 _ _ HG.out).mono ?_); rintro e w' ⟨rfl, ⟨nd2, rfl⟩⟩) | (go_at_call 51; (with_reducible refine (HA.out _ (by repeat (first | (with_reducible first | exact HB2.out | apply below_alloc | apply pw_below_drewN | apply below_drew1) | exact HB2.out))).mono ?_); rintro e w' ⟨rfl, ⟨nd3, rfl⟩⟩)))
        go_ret
        exact ⟨by rw [← HR.out]; rfl, (by repeat (first | (with_reducible first | exact HB.out | apply below_alloc | apply pw_below_drewN | apply below_drew1) | exact HB.out))⟩
      | true =>
        rw [hx1] at HW HR
        clear hx1
        by_cases c : z.toList = ([] : List UInt8)
        · have cb : (z.toList == ([] : List UInt8)) = true := beq_iff_eq.2 c
          have ce : z.toList.isEmpty = true := by rw [c]; rfl
          rw [cb] at HR
          clear c
          cases hx3 : signsB a0_1 0 36 with
          | false =>
            rw [hx3] at HG HR
            clear hx3
            go_wp2_with (first | (go_at_call 48; (with_reducible refine (impl_within.calls (a0_0.size : Int) 1 8 _ _ HW.out).mono ?_); rintro e w' ⟨rfl, ⟨nd, rfl⟩⟩) | (go_at_call 49; (with_reducible refine (HT.out _).mono ?_); rintro e w2 ⟨rfl, hb2⟩; have HX2 := Aside0.mk (blk_below (by (with_reducible repeat (first | refine blk_drewN ?_ _ | refine blk_drew ?_ | refine blk_alloc ?_ _)); exact HX.out) hb2); have HB2 := Aside0.mk (below_step (by repeat (first | (with_reducible first | exact HB.out | apply below_alloc | apply pw_below_drewN | apply below_drew1) | exact HB.out)) hb2); have hcy0 : w2.cell? ⟨B1, 0, none⟩ = some (.string a0_0) := (blk_cell HX2.out 0).trans rfl; have hcy1 : w2.cell? ⟨B1, 1, none⟩ = some (.string a0_1) := (blk_cell HX2.out 1).trans rfl; have hcy2 : w2.cell? ⟨B1, 2, none⟩ = some (.slice A0_2 l0_2.length c0_2) := (blk_cell HX2.out 2).trans rfl; clear hb2) | (go_at_call 50; (with_reducible refine (impl_areSigns.calls (a0_1.size + 1) a0_1 0 36 _ _ HG.out).mono ?_); rintro e w' ⟨rfl, ⟨nd2, rfl⟩⟩) | (go_at_call 51; (with_reducible refine (HA.out _ (by repeat (first | (with_reducible first | exact HB2.out | apply below_alloc | apply pw_below_drewN | apply below_drew1) | exact HB2.out))).mono ?_); rintro e w' ⟨rfl, ⟨nd3, rfl⟩⟩))
            repeat (go_quiet (first | (go_at_call 48; (with_reducible refine (impl_within.calls (a0_0.size : Int) 1 8 _ _ HW.out).mono ?_); rintro e w' ⟨rfl, ⟨nd, rfl⟩⟩) | (go_at_call 49; (with_reducible refine (HT.out _).mono ?_); rintro e w2 ⟨rfl, hb2⟩; have HX2 := Aside0.mk (blk_below (by (with_reducible repeat (first | refine blk_drewN ?_ _ | refine blk_drew ?_ | refine blk_alloc ?_ _)); exact HX.out) hb2); have HB2 := Aside0.mk (below_step (by repeat (first | (with_reducible first | exact HB.out | apply below_alloc | apply pw_below_drewN | apply below_drew1) | exact HB.out)) hb2); have hcy0 : w2.cell? ⟨B1, 0, none⟩ = some (.string a0_0) := (blk_cell HX2.out 0).trans rfl; have hcy1 : w2.cell? ⟨B1, 1, none⟩ = some (.string a0_1) := (blk_cell HX2.out 1).trans rfl; have hcy2 : w2.cell? ⟨B1, 2, none⟩ = some (.slice A0_2 l0_2.length c0_2) := (blk_cell HX2.out 2).trans rfl; clear hb2) | (go_at_call 50; (with_reducible refine (impl_areSigns.calls (a0_1.size + 1) a0_1 0 36 _ _ HG.out).mono ?_); rintro e w' ⟨rfl, ⟨nd2, rfl⟩⟩) | (go_at_call 51; (with_reducible refine (HA.out _ (by repeat (first | (with_reducible first | exact HB2.out | apply below_alloc | apply pw_below_drewN | apply below_drew1) | exact HB2.out))).mono ?_); rintro e w' ⟨rfl, ⟨nd3, rfl⟩⟩)); try go_wp2_with (first | (go_at_call 48; (with_reducible refine (impl_within.calls (a0_0.size : Int) 1 8 _ _ HW.out).mono ?_); rintro e w' ⟨rfl, ⟨nd, rfl⟩⟩) | (go_at_call 49; (with_reducible refine (HT.out _).mono ?_); rintro e w2 ⟨rfl, hb2⟩; have HX2 := Aside0.mk (blk_below (by (with_reducible repeat (first | refine blk_drewN ?_ _ | refine blk_drew ?_ | refine blk_alloc ?_ _)); exact HX.out) hb2); have HB2 := Aside0.mk (below_step (by repeat (first | (with_reducible first | exact HB.out | apply below_alloc | apply pw_below_drewN | apply below_drew1) | exact HB.out)) hb2); have hcy0 : w2.cell? ⟨B1, 0, none⟩ = some (.string a0_0) := (blk_cell HX2.out 0).trans rfl; have hcy1 : w2.cell? ⟨B1, 1, none⟩ = some (.string a0_1) := (blk_cell HX2.out 1).trans rfl; have hcy2 : w2.cell? ⟨B1, 2, none⟩ = some (.slice A0_2 l0_2.length c0_2) := (blk_cell HX2.out 2).trans rfl; clear hb2) | (go_at_call 50; (with_reducible refine (impl_areSigns.calls (a0_1.size + 1) a0_1 0 36 _ _ HG.out).mono ?_); rintro e w' ⟨rfl, ⟨nd2, rfl⟩⟩) | (go_at_call 51; (with_reducible refine (HA.out _ (by repeat (first | (with_reducible first | exact HB2.out | apply below_alloc | apply pw_below_drewN | apply below_drew1) | exact HB2.out))).mono ?_); rintro e w' ⟨rfl, ⟨nd3, rfl⟩⟩)))
            go_ret
            exact ⟨by rw [← HR.out]; rfl, (by repeat (first | (with_reducible first | exact HB2.out | apply below_alloc | apply pw_below_drewN | apply below_drew1) | exact HB2.out))⟩
          | true =>
            rw [hx3] at HG HR
            clear hx3
            by_cases c3 : l0_2.length ≤ 3
            · have d3 : decide (l0_2.length ≤ 3) = true := decide_eq_true c3
              have d3i : decide ((l0_2.length : Int) ≤ 3) = true := decide_eq_true (by omega)
              rw [d3] at HR
              obtain ⟨x4, hx4⟩ : ∃ x4 : Bool, (l0_2.any fun x => !signsB x 1 4) = x4 := ⟨_, rfl⟩
              rw [hx4] at HR
              simp only [hx4] at HA
              clear hx4
              go_wp2_with (first | (go_at_call 48; (with_reducible refine (impl_within.calls (a0_0.size : Int) 1 8 _ _ HW.out).mono ?_); rintro e w' ⟨rfl, ⟨nd, rfl⟩⟩) | (go_at_call 49; (with_reducible refine (HT.out _).mono ?_); rintro e w2 ⟨rfl, hb2⟩; have HX2 := Aside0.mk (blk_below (by (with_reducible repeat (first | refine blk_drewN ?_ _ | refine blk_drew ?_ | refine blk_alloc ?_ _)); exact HX.out) hb2); have HB2 := Aside0.mk (below_step (by repeat (first | (with_reducible first | exact HB.out | apply below_alloc | apply pw_below_drewN | apply below_drew1) | exact HB.out)) hb2); have hcy0 : w2.cell? ⟨B1, 0, none⟩ = some (.string a0_0) := (blk_cell HX2.out 0).trans rfl; have hcy1 : w2.cell? ⟨B1, 1, none⟩ = some (.string a0_1) := (blk_cell HX2.out 1).trans rfl; have hcy2 : w2.cell? ⟨B1, 2, none⟩ = some (.slice A0_2 l0_2.length c0_2) := (blk_cell HX2.out 2).trans rfl; clear hb2) | (go_at_call 50; (with_reducible refine (impl_areSigns.calls (a0_1.size + 1) a0_1 0 36 _ _ HG.out).mono ?_); rintro e w' ⟨rfl, ⟨nd2, rfl⟩⟩) | (go_at_call 51; (with_reducible refine (HA.out _ (by repeat (first | (with_reducible first | exact HB2.out | apply below_alloc | apply pw_below_drewN | apply below_drew1) | exact HB2.out))).mono ?_); rintro e w' ⟨rfl, ⟨nd3, rfl⟩⟩))
              repeat (go_quiet (first | (go_at_call 48; (with_reducible refine (impl_within.calls (a0_0.size : Int) 1 8 _ _ HW.out).mono ?_); rintro e w' ⟨rfl, ⟨nd, rfl⟩⟩) | (go_at_call 49; (with_reducible refine (HT.out _).mono ?_); rintro e w2 ⟨rfl, hb2⟩; have HX2 := Aside0.mk (blk_below (by (with_reducible repeat (first | refine blk_drewN ?_ _ | refine blk_drew ?_ | refine blk_alloc ?_ _)); exact HX.out) hb2); have HB2 := Aside0.mk (below_step (by repeat (first | (with_reducible first | exact HB.out | apply below_alloc | apply pw_below_drewN | apply below_drew1) | exact HB.out)) hb2); have hcy0 : w2.cell? ⟨B1, 0, none⟩ = some (.string a0_0) := (blk_cell HX2.out 0).trans rfl; have hcy1 : w2.cell? ⟨B1, 1, none⟩ = some (.string a0_1) := (blk_cell HX2.out 1).trans rfl; have hcy2 : w2.cell? ⟨B1, 2, none⟩ = some (.slice A0_2 l0_2.length c0_2) := (blk_cell HX2.out 2).trans rfl; clear hb2) | (go_at_call 50; (with_reducible refine (impl_areSigns.calls (a0_1.size + 1) a0_1 0 36 _ _ HG.out).mono ?_); rintro e w' ⟨rfl, ⟨nd2, rfl⟩⟩) | (go_at_call 51; (with_reducible refine (HA.out _ (by repeat (first | (with_reducible first | exact HB2.out | apply below_alloc | apply pw_below_drewN | apply below_drew1) | exact HB2.out))).mono ?_); rintro e w' ⟨rfl, ⟨nd3, rfl⟩⟩)); try go_wp2_with (first | (go_at_call 48; (with_reducible refine (impl_within.calls (a0_0.size : Int) 1 8 _ _ HW.out).mono ?_); rintro e w' ⟨rfl, ⟨nd, rfl⟩⟩) | (go_at_call 49; (with_reducible refine (HT.out _).mono ?_); rintro e w2 ⟨rfl, hb2⟩; have HX2 := Aside0.mk (blk_below (by (with_reducible repeat (first | refine blk_drewN ?_ _ | refine blk_drew ?_ | refine blk_alloc ?_ _)); exact HX.out) hb2); have HB2 := Aside0.mk (below_step (by repeat (first | (with_reducible first | exact HB.out | apply below_alloc | apply pw_below_drewN | apply below_drew1) | exact HB.out)) hb2); have hcy0 : w2.cell? ⟨B1, 0, none⟩ = some (.string a0_0) := (blk_cell HX2.out 0).trans rfl; have hcy1 : w2.cell? ⟨B1, 1, none⟩ = some (.string a0_1) := (blk_cell HX2.out 1).trans rfl; have hcy2 : w2.cell? ⟨B1, 2, none⟩ = some (.slice A0_2 l0_2.length c0_2) := (blk_cell HX2.out 2).trans rfl; clear hb2) | (go_at_call 50; (with_reducible refine (impl_areSigns.calls (a0_1.size + 1) a0_1 0 36 _ _ HG.out).mono ?_); rintro e w' ⟨rfl, ⟨nd2, rfl⟩⟩) | (go_at_call 51; (with_reducible refine (HA.out _ (by repeat (first | (with_reducible first | exact HB2.out | apply below_alloc | apply pw_below_drewN | apply below_drew1) | exact HB2.out))).mono ?_); rintro e w' ⟨rfl, ⟨nd3, rfl⟩⟩)))
              go_ret
              exact ⟨by rw [← HR.out]; rfl, (by repeat (first | (with_reducible first | exact HB2.out | apply below_alloc | apply pw_below_drewN | apply below_drew1) | exact HB2.out))⟩
            · have d3 : decide (l0_2.length ≤ 3) = false := decide_eq_false c3
              have d3i : decide ((l0_2.length : Int) ≤ 3) = false := decide_eq_false (by omega)
              rw [d3] at HR
              go_wp2_with (first | (go_at_call 48; (with_reducible refine (impl_within.calls (a0_0.size : Int) 1 8 _ _ HW.out).mono ?_); rintro e w' ⟨rfl, ⟨nd, rfl⟩⟩) | (go_at_call 49; (with_reducible refine (HT.out _).mono ?_); rintro e w2 ⟨rfl, hb2⟩; have HX2 := Aside0.mk (blk_below (by (with_reducible repeat (first | refine blk_drewN ?_ _ | refine blk_drew ?_ | refine blk_alloc ?_ _)); exact HX.out) hb2); have HB2 := Aside0.mk (below_step (by repeat (first | (with_reducible first | exact HB.out | apply below_alloc | apply pw_below_drewN | apply below_drew1) | exact HB.out)) hb2); have hcy0 : w2.cell? ⟨B1, 0, none⟩ = some (.string a0_0) := (blk_cell HX2.out 0).trans rfl; have hcy1 : w2.cell? ⟨B1, 1, none⟩ = some (.string a0_1) := (blk_cell HX2.out 1).trans rfl; have hcy2 : w2.cell? ⟨B1, 2, none⟩ = some (.slice A0_2 l0_2.length c0_2) := (blk_cell HX2.out 2).trans rfl; clear hb2) | (go_at_call 50; (with_reducible refine (impl_areSigns.calls (a0_1.size + 1) a0_1 0 36 _ _ HG.out).mono ?_); rintro e w' ⟨rfl, ⟨nd2, rfl⟩⟩) | (go_at_call 51; (with_reducible refine (HA.out _ (by repeat (first | (with_reducible first | exact HB2.out | apply below_alloc | apply pw_below_drewN | apply below_drew1) | exact HB2.out))).mono ?_); rintro e w' ⟨rfl, ⟨nd3, rfl⟩⟩))
              repeat (go_quiet (first | (go_at_call 48; (with_reducible refine (impl_within.calls (a0_0.size : Int) 1 8 _ _ HW.out).mono ?_); rintro e w' ⟨rfl, ⟨nd, rfl⟩⟩) | (go_at_call 49; (with_reducible refine (HT.out _).mono ?_); rintro e w2 ⟨rfl, hb2⟩; have HX2 := Aside0.mk (blk_below (by (with_reducible repeat (first | refine blk_drewN ?_ _ | refine blk_drew ?_ | refine blk_alloc ?_ _)); exact HX.out) hb2); have HB2 := Aside0.mk (below_step (by repeat (first | (with_reducible first | exact HB.out | apply below_alloc | apply pw_below_drewN | apply below_drew1) | exact HB.out)) hb2); have hcy0 : w2.cell? ⟨B1, 0, none⟩ = some (.string a0_0) := (blk_cell HX2.out 0).trans rfl; have hcy1 : w2.cell? ⟨B1, 1, none⟩ = some (.string a0_1) := (blk_cell HX2.out 1).trans rfl; have hcy2 : w2.cell? ⟨B1, 2, none⟩ = some (.slice A0_2 l0_2.length c0_2) := (blk_cell HX2.out 2).trans rfl; clear hb2) | (go_at_call 50; (with_reducible refine (impl_areSigns.calls (a0_1.size + 1) a0_1 0 36 _ _ HG.out).mono ?_); rintro e w' ⟨rfl, ⟨nd2, rfl⟩⟩) | (go_at_call 51; (with_reducible refine (HA.out _ (by repeat (first | (with_reducible first | exact HB2.out | apply below_alloc | apply pw_below_drewN | apply below_drew1) | exact HB2.out))).mono ?_); rintro e w' ⟨rfl, ⟨nd3, rfl⟩⟩)); try go_wp2_with (first | (go_at_call 48; (with_reducible refine (impl_within.calls (a0_0.size : Int) 1 8 _ _ HW.out).mono ?_); rintro e w' ⟨rfl, ⟨nd, rfl⟩⟩) | (go_at_call 49; (with_reducible refine (HT.out _).mono ?_); rintro e w2 ⟨rfl, hb2⟩; have HX2 := Aside0.mk (blk_below (by (with_reducible repeat (first | refine blk_drewN ?_ _ | refine blk_drew ?_ | refine blk_alloc ?_ _)); exact HX.out) hb2); have HB2 := Aside0.mk (below_step (by repeat (first | (with_reducible first | exact HB.out | apply below_alloc | apply pw_below_drewN | apply below_drew1) | exact HB.out)) hb2); have hcy0 : w2.cell? ⟨B1, 0, none⟩ = some (.string a0_0) := (blk_cell HX2.out 0).trans rfl; have hcy1 : w2.cell? ⟨B1, 1, none⟩ = some (.string a0_1) := (blk_cell HX2.out 1).trans rfl; have hcy2 : w2.cell? ⟨B1, 2, none⟩ = some (.slice A0_2 l0_2.length c0_2) := (blk_cell HX2.out 2).trans rfl; clear hb2) | (go_at_call 50; (with_reducible refine (impl_areSigns.calls (a0_1.size + 1) a0_1 0 36 _ _ HG.out).mono ?_); rintro e w' ⟨rfl, ⟨nd2, rfl⟩⟩) | (go_at_call 51; (with_reducible refine (HA.out _ (by repeat (first | (with_reducible first | exact HB2.out | apply below_alloc | apply pw_below_drewN | apply below_drew1) | exact HB2.out))).mono ?_); rintro e w' ⟨rfl, ⟨nd3, rfl⟩⟩)))
              go_ret
              exact ⟨by rw [← HR.out]; rfl, (by repeat (first | (with_reducible first | exact HB2.out | apply below_alloc | apply pw_below_drewN | apply below_drew1) | exact HB2.out))⟩
        · have cb : (z.toList == ([] : List UInt8)) = false := beq_eq_false_iff_ne.2 c
          have ce : z.toList.isEmpty = false := by
            cases hq : z.toList with
            | nil => exact absurd hq c
            | cons a b => rfl
          rw [cb] at HR
          go_wp2_with (first | (go_at_call 48; (with_reducible refine (impl_within.calls (a0_0.size : Int) 1 8 _ _ HW.out).mono ?_); rintro e w' ⟨rfl, ⟨nd, rfl⟩⟩) | (go_at_call 49; (with_reducible refine (HT.out _).mono ?_); rintro e w2 ⟨rfl, hb2⟩; have HX2 := Aside0.mk (blk_below (by (with_reducible repeat (first | refine blk_drewN ?_ _ | refine blk_drew ?_ | refine blk_alloc ?_ _)); exact HX.out) hb2); have HB2 := Aside0.mk (below_step (by repeat (first | (with_reducible first | exact HB.out | apply below_alloc | apply pw_below_drewN | apply below_drew1) | exact HB.out)) hb2); have hcy0 : w2.cell? ⟨B1, 0, none⟩ = some (.string a0_0) := (blk_cell HX2.out 0).trans rfl; have hcy1 : w2.cell? ⟨B1, 1, none⟩ = some (.string a0_1) := (blk_cell HX2.out 1).trans rfl; have hcy2 : w2.cell? ⟨B1, 2, none⟩ = some (.slice A0_2 l0_2.length c0_2) := (blk_cell HX2.out 2).trans rfl; clear hb2) | (go_at_call 50; (with_reducible refine (impl_areSigns.calls (a0_1.size + 1) a0_1 0 36 _ _ HG.out).mono ?_); rintro e w' ⟨rfl, ⟨nd2, rfl⟩⟩) | (go_at_call 51; (with_reducible refine (HA.out _ (by repeat (first | (with_reducible first | exact HB2.out | apply below_alloc | apply pw_below_drewN | apply below_drew1) | exact HB2.out))).mono ?_); rintro e w' ⟨rfl, ⟨nd3, rfl⟩⟩))
          repeat (go_quiet (first | (go_at_call 48; (with_reducible refine (impl_within.calls (a0_0.size : Int) 1 8 _ _ HW.out).mono ?_); rintro e w' ⟨rfl, ⟨nd, rfl⟩⟩) | (go_at_call 49; (with_reducible refine (HT.out _).mono ?_); rintro e w2 ⟨rfl, hb2⟩; have HX2 := Aside0.mk (blk_below (by (with_reducible repeat (first | refine blk_drewN ?_ _ | refine blk_drew ?_ | refine blk_alloc ?_ _)); exact HX.out) hb2); have HB2 := Aside0.mk (below_step (by repeat (first | (with_reducible first | exact HB.out | apply below_alloc | apply pw_below_drewN | apply below_drew1) | exact HB.out)) hb2); have hcy0 : w2.cell? ⟨B1, 0, none⟩ = some (.string a0_0) := (blk_cell HX2.out 0).trans rfl; have hcy1 : w2.cell? ⟨B1, 1, none⟩ = some (.string a0_1) := (blk_cell HX2.out 1).trans rfl; have hcy2 : w2.cell? ⟨B1, 2, none⟩ = some (.slice A0_2 l0_2.length c0_2) := (blk_cell HX2.out 2).trans rfl; clear hb2) | (go_at_call 50; (with_reducible refine (impl_areSigns.calls (a0_1.size + 1) a0_1 0 36 _ _ HG.out).mono ?_); rintro e w' ⟨rfl, ⟨nd2, rfl⟩⟩) | (go_at_call 51; (with_reducible refine (HA.out _ (by repeat (first | (with_reducible first | exact HB2.out | apply below_alloc | apply pw_below_drewN | apply below_drew1) | exact HB2.out))).mono ?_); rintro e w' ⟨rfl, ⟨nd3, rfl⟩⟩)); try go_wp2_with (first | (go_at_call 48; (with_reducible refine (impl_within.calls (a0_0.size : Int) 1 8 _ _ HW.out).mono ?_); rintro e w' ⟨rfl, ⟨nd, rfl⟩⟩) | (go_at_call 49; (with_reducible refine (HT.out _).mono ?_); rintro e w2 ⟨rfl, hb2⟩; have HX2 := Aside0.mk (blk_below (by (with_reducible repeat (first | refine blk_drewN ?_ _ | refine blk_drew ?_ | refine blk_alloc ?_ _)); exact HX.out) hb2); have HB2 := Aside0.mk (below_step (by repeat (first | (with_reducible first | exact HB.out | apply below_alloc | apply pw_below_drewN | apply below_drew1) | exact HB.out)) hb2); have hcy0 : w2.cell? ⟨B1, 0, none⟩ = some (.string a0_0) := (blk_cell HX2.out 0).trans rfl; have hcy1 : w2.cell? ⟨B1, 1, none⟩ = some (.string a0_1) := (blk_cell HX2.out 1).trans rfl; have hcy2 : w2.cell? ⟨B1, 2, none⟩ = some (.slice A0_2 l0_2.length c0_2) := (blk_cell HX2.out 2).trans rfl; clear hb2) | (go_at_call 50; (with_reducible refine (impl_areSigns.calls (a0_1.size + 1) a0_1 0 36 _ _ HG.out).mono ?_); rintro e w' ⟨rfl, ⟨nd2, rfl⟩⟩) | (go_at_call 51; (with_reducible refine (HA.out _ (by repeat (first | (with_reducible first | exact HB2.out | apply below_alloc | apply pw_below_drewN | apply below_drew1) | exact HB2.out))).mono ?_); rintro e w' ⟨rfl, ⟨nd3, rfl⟩⟩)))
          go_ret
          exact ⟨by rw [← HR.out]; rfl, (by repeat (first | (with_reducible first | exact HB2.out | apply below_alloc | apply pw_below_drewN | apply below_drew1) | exact HB2.out))⟩

/-! ### impl_ParseScheme: function 16 -/
-- --making
def psT (t : ByteArray) : List ByteArray := Lib.splitB (⟨#[126]⟩ : ByteArray) 0 (Lib.countB t (⟨#[126]⟩ : ByteArray)) t
def impl_ParseScheme.f (t : ByteArray) : Option (ByteArray × ByteArray × List ByteArray × Bool) := (strings_Split.f t (⟨#[126]⟩ : ByteArray)).bind fun ps => (strings_Cut.f (rdOf ByteArray.empty ps 0) (⟨#[33]⟩ : ByteArray)).bind fun c => (impl_IsScheme.f c.1 c.2.1 (ps.drop 1)).bind fun g => if g = true then ((impl_schemeText.f 2000000 c.1 c.2.1 (ps.drop 1)).bind fun x => if x.toList = t.toList then some (c.1, c.2.1, ps.drop 1, true) else some ((⟨#[]⟩ : ByteArray), (⟨#[]⟩ : ByteArray), [], false)) else some ((⟨#[]⟩ : ByteArray), (⟨#[]⟩ : ByteArray), [], false)
set_option maxHeartbeats 4000000 in
set_option maxRecDepth 100000 in
theorem impl_ParseScheme.calls (a0 : ByteArray) (r1 r2 : ByteArray) (r3 : List ByteArray) (r4 : Bool) (w : World) (h : impl_ParseScheme.f a0 = some (r1, r2, r3, r4)) (henv : EnvT w) :
    Calls Tryd.prog 16 #[.string a0] w fun e w' => ∃ v2_ : Value, e = .returned (.tuple #[.agg #[.string r1, .string r2, v2_], .bool r4]) ∧ Kd.R Kd.string 9 w' w.heap.size (fun _ => True) v2_ r3 ∧ Below w.heap.size w w' := by
  obtain ⟨ps, hsp, h⟩ := Option.bind_eq_some_iff.mp (show (strings_Split.f a0 (⟨#[126]⟩ : ByteArray)).bind _ = some (r1, r2, r3, r4) from h)
  obtain ⟨⟨c1, c2, c3⟩, hcu, h⟩ := Option.bind_eq_some_iff.mp h
  obtain ⟨g, his, h⟩ := Option.bind_eq_some_iff.mp h
  have hps : 1 ≤ ps.length ∧ ps.length ≤ 1048577 := by
    unfold strings_Split.f at hsp
    by_cases c : a0.size ≤ 1048576 ∧ 1 ≤ (⟨#[126]⟩ : ByteArray).size
    · rw [if_pos c] at hsp
      obtain rfl := Option.some.inj hsp
      have h1 := Lib.splitB_all (⟨#[126]⟩ : ByteArray) c.2 0 (Lib.countB a0 (⟨#[126]⟩ : ByteArray)) a0 rfl
      have h2 := Lib.countB_le (⟨#[126]⟩ : ByteArray) c.2 a0.size a0 (Nat.le_refl _)
      omega
    · rw [if_neg c] at hsp; cases hsp
  have hcl : slices_Clone_string_string.f (ps.drop 1) = some (ps.drop 1) := by
    unfold slices_Clone_string_string.f
    rw [if_pos (by rw [List.length_drop]; omega)]
  obtain ⟨z, hz⟩ : ∃ z, z = ps.drop 1 := ⟨_, rfl⟩
  rw [← hz] at his h hcl
  have HZ := Aside0.mk hz
  have HE := Aside0.mk henv
  have HSP := Aside0.mk hsp
  have HCU := Aside0.mk hcu
  have HPS := Aside0.mk hps
  have HCL := Aside0.mk hcl
  have HB := Aside0.mk (Below.refl w.heap.size w)
  clear henv hsp hcu hps hcl hz
  cases g with
  | false =>
    rw [if_neg (by simp)] at h
    simp only [Option.some.injEq, Prod.mk.injEq] at h
    obtain ⟨rfl, rfl, rfl, rfl⟩ := h
    have HIS := Aside0.mk his
    clear his
    go_enter Tryd.func16, Tryd.ntmps16
    go_wp2_with (first | ((with_reducible refine gate_dst (N := 2) rfl ?_); refine box_event ?hg (N := 2) ?hd (cs := #[.string (⟨#[]⟩ : ByteArray), .string (⟨#[]⟩ : ByteArray), .slice none 0 0]) (t := 28) ?hr ?_; (case hd => rfl); (case hg => rfl); (case hr => first | (go_simp; done) | (go_simp; rfl)); intro B2 hg w2 hx hb; have HX2 := Aside0.mk hx; have GE2 := Aside0.mk (show w.heap.size ≤ B2 from (by rw [hg]; exact Nat.le_refl _)); have HB2 := Aside0.mk hb; clear hg hx hb) | (go_at_call 39; (with_reducible refine (strings_Split.calls a0 (⟨#[126]⟩ : ByteArray) ps _ HSP.out (env_below HE.out HB2.out)).mono ?_); rintro e w3 ⟨v, rfl, hR, hb⟩; obtain ⟨A, cp, rfl, hcp, hC⟩ := Kd.R_reads hR; obtain ⟨ad, eA, hx0⟩ := Kd.at_string hC 0 (by omega) (by have := HPS.out; omega); cases eA; rewrite [show ((0 : Int)).toNat = 0 from rfl, Addr.add_zero'] at hx0; have hlen0 : (0 < ps.length) = True := eq_true (by have := HPS.out; omega); have HX3 := Aside0.mk (blk_below HX2.out hb); have HB3 := Aside0.mk (below_then HB2.out HB2.out.size hb); have HC3 := Aside0.mk hC; have HCP := Aside0.mk hcp; have q1 : (1 : Int) ≤ ((ps.length : Int) : Int) := (by have := HPS.out; omega); obtain ⟨i01, hi01, _, hsz1, _⟩ := info_parts info9; have hcut := cut_from (P := Tryd.prog) 22 9 .i64 Tryd.underlying22 hi01 1 hsz1 (some ad) ps.length cp 1 (by omega) q1; have hD := Kd.C_drop (m := (1 : Int).toNat) (c := cp) hC (by omega) hcp; obtain ⟨A1, hA1⟩ : ∃ A1, A1 = (if cp = (1 : Int).toNat then (some ad) else ((some ad) : Option Addr).map (·.add ((1 : Int).toNat * 1))) := ⟨_, rfl⟩; obtain ⟨cq, hcq⟩ : ∃ c1, c1 = cp - (1 : Int).toNat := ⟨_, rfl⟩; have hn : z.length = ps.length - (1 : Int).toNat := (by rw [HZ.out, List.length_drop]; rfl); rewrite [show (ps).drop (1 : Int).toNat = z from HZ.out.symm] at hD; replace hD : Kd.C Kd.string _ A1 z.length z := (by rw [hA1]; exact hD); rewrite [← hn, ← hA1, ← hcq] at hcut; have HD := Aside0.mk hD; have HCQ := Aside0.mk (show z.length ≤ cq from (by rw [hn, hcq]; exact Nat.sub_le_sub_right hcp _)); clear hD hA1 hcq hn; replace q1 := eq_true q1; clear hR hC hcp hb hi01 hsz1) | (go_at_call 40; (with_reducible refine (strings_Cut.calls (rdOf ByteArray.empty ps 0) (⟨#[33]⟩ : ByteArray) c1 c2 c3 _ HCU.out (env_below HE.out HB3.out)).mono ?_); rintro e w' ⟨rfl, ⟨nd, rfl⟩⟩) | (go_at_call 41; (with_reducible refine (slices_Clone_string_string.calls A1 cq z z _ (Kd.C_drewN HD.out _) HCQ.out HCL.out).mono ?_); rintro e w5 ⟨v, rfl, hR, hb⟩; obtain ⟨Av, cv, rfl, hcv, hCv⟩ := Kd.R_reads hR; have HR5 := Aside0.mk hR; have HX5 := Aside0.mk (blk_below (blk_drewN HX3.out _) hb); have HB5 := Aside0.mk (below_step (pw_below_drewN HB3.out _) hb); clear hR hcv hCv hb) | ((with_reducible refine gate_dst (N := 8) rfl ?_); refine box_event ?hg (N := 8) ?hd (cs := #[.string (⟨#[]⟩ : ByteArray), .string (⟨#[]⟩ : ByteArray), .slice none 0 0]) (t := 28) ?hr ?_; (case hd => rfl); (case hg => rfl); (case hr => first | (go_simp; done) | (go_simp; rfl)); intro B8 hg w6 hx hb; have HX6 := Aside0.mk hx; have HG6 := Aside0.mk (show B2 ≠ B8 from (by rw [hg]; exact Nat.ne_of_lt (blk_lt HX5.out))); have GE8 := Aside0.mk (show w.heap.size ≤ B8 from (by rw [hg]; exact HB5.out.size)); have HX26 := Aside0.mk (blk_below HX5.out hb); have HR6 := Aside0.mk (Kd.R_lower (Kd.R_below HR5.out hb) (show w.heap.size ≤ _ from HB3.out.size)); have HB6 := Aside0.mk (below_then HB5.out HB5.out.size hb); have hzc0 : w6.cell? ⟨B8, 0, none⟩ = some (.string (⟨#[]⟩ : ByteArray)) := (blk_cell hx 0).trans rfl; have hzc1 : w6.cell? ⟨B8, 1, none⟩ = some (.string (⟨#[]⟩ : ByteArray)) := (blk_cell hx 1).trans rfl; have hzc2 : w6.cell? ⟨B8, 2, none⟩ = some (.slice none 0 0) := (blk_cell hx 2).trans rfl; have hzf0 := blk_frozen hx 0; have hzf1 := blk_frozen hx 1; have hzf2 := blk_frozen hx 2; clear hg hx hb) | (go_at_call 22; have HR7 := Aside0.mk (show Kd.R Kd.string 9 (((w6.setCell ⟨B8, 0, none⟩ (.string c1)).setCell ⟨B8, 1, none⟩ (.string c2)).setCell ⟨B8, 2, none⟩ (.slice Av z.length cv)) w.heap.size (fun _ => True) (.slice Av z.length cv) z from (Kd.R_mono (Kd.R_far (p := ⟨B8, 2, none⟩) (Kd.R_far (p := ⟨B8, 1, none⟩) (Kd.R_far (p := ⟨B8, 0, none⟩) (Kd.R_types HR6.out HX6.out (by decide)) (fun _ hk => hk.2) (.string c1)) (fun _ hk => hk.2) (.string c2)) (fun _ hk => hk.2) (.slice Av z.length cv)) (fun _ _ => trivial))); have HX7 := Aside0.mk (show (((w6.setCell ⟨B8, 0, none⟩ (.string c1)).setCell ⟨B8, 1, none⟩ (.string c2)).setCell ⟨B8, 2, none⟩ (.slice Av z.length cv)).heap[B8]? = some (.cells #[.string c1, .string c2, .slice Av z.length cv] 28 (0, 0)) from (by refine blk_put (cs := #[.string c1, .string c2, .slice none 0 0]) ?_ 2 _ rfl; refine blk_put (cs := #[.string c1, .string (⟨#[]⟩ : ByteArray), .slice none 0 0]) ?_ 1 _ rfl; refine blk_put (cs := #[.string (⟨#[]⟩ : ByteArray), .string (⟨#[]⟩ : ByteArray), .slice none 0 0]) ?_ 0 _ rfl; exact HX6.out)); have HX27 := Aside0.mk (show (((w6.setCell ⟨B8, 0, none⟩ (.string c1)).setCell ⟨B8, 1, none⟩ (.string c2)).setCell ⟨B8, 2, none⟩ (.slice Av z.length cv)).heap[B2]? = some (.cells #[.string (⟨#[]⟩ : ByteArray), .string (⟨#[]⟩ : ByteArray), .slice none 0 0] 28 (0, 0)) from (by rw [Below.heap_setCell _ _ _ _ HG6.out, Below.heap_setCell _ _ _ _ HG6.out, Below.heap_setCell _ _ _ _ HG6.out]; exact HX26.out)); have HB7 := Aside0.mk (show Below w.heap.size w (((w6.setCell ⟨B8, 0, none⟩ (.string c1)).setCell ⟨B8, 1, none⟩ (.string c2)).setCell ⟨B8, 2, none⟩ (.slice Av z.length cv)) from below_set (below_set (below_set HB6.out GE8.out) GE8.out) GE8.out); (with_reducible refine (impl_IsScheme.calls c1 c2 Av cv z _ _ (Kd.R_reads' HR7.out).2.2 (Kd.R_reads' HR7.out).2.1 HIS.out).mono ?_); rintro e w8 ⟨rfl, hb⟩; have HR8 := Aside0.mk (Kd.R_below HR7.out hb); have hx8 := blk_below HX7.out hb; have hx28 := blk_below HX27.out hb; have HB8 := Aside0.mk (below_step HB7.out hb); have hp80 : w8.cell? ⟨B8, 0, none⟩ = some (.string c1) := (blk_cell hx8 0).trans rfl; have hp81 : w8.cell? ⟨B8, 1, none⟩ = some (.string c2) := (blk_cell hx8 1).trans rfl; have hp82 : w8.cell? ⟨B8, 2, none⟩ = some (.slice Av z.length cv) := (blk_cell hx8 2).trans rfl; have fp80 := blk_frozen hx8 0; have fp81 := blk_frozen hx8 1; have fp82 := blk_frozen hx8 2; have hp20 : w8.cell? ⟨B2, 0, none⟩ = some (.string (⟨#[]⟩ : ByteArray)) := (blk_cell hx28 0).trans rfl; have hp21 : w8.cell? ⟨B2, 1, none⟩ = some (.string (⟨#[]⟩ : ByteArray)) := (blk_cell hx28 1).trans rfl; have hp22 : w8.cell? ⟨B2, 2, none⟩ = some (.slice none 0 0) := (blk_cell hx28 2).trans rfl; have fp20 := blk_frozen hx28 0; have fp21 := blk_frozen hx28 1; have fp22 := blk_frozen hx28 2; have HX8 := Aside0.mk hx8; have HX28 := Aside0.mk hx28; clear hx8 hx28 hb) | (go_at_call 42; (with_reducible refine (impl_schemeText.calls 2000000 c1 c2 Av cv z _ _ (Kd.R_reads' HR8.out).2.2 (Kd.R_reads' HR8.out).2.1 HTX.out).mono ?_); rintro e w9 ⟨rfl, hb⟩; have HR9 := Aside0.mk (Kd.R_below HR8.out hb); have hx9 := blk_below HX8.out hb; have hx29 := blk_below HX28.out hb; have HB9 := Aside0.mk (below_step HB8.out hb); have hq80 : w9.cell? ⟨B8, 0, none⟩ = some (.string c1) := (blk_cell hx9 0).trans rfl; have hq81 : w9.cell? ⟨B8, 1, none⟩ = some (.string c2) := (blk_cell hx9 1).trans rfl; have hq82 : w9.cell? ⟨B8, 2, none⟩ = some (.slice Av z.length cv) := (blk_cell hx9 2).trans rfl; have fq80 := blk_frozen hx9 0; have fq81 := blk_frozen hx9 1; have fq82 := blk_frozen hx9 2; have hq20 : w9.cell? ⟨B2, 0, none⟩ = some (.string (⟨#[]⟩ : ByteArray)) := (blk_cell hx29 0).trans rfl; have hq21 : w9.cell? ⟨B2, 1, none⟩ = some (.string (⟨#[]⟩ : ByteArray)) := (blk_cell hx29 1).trans rfl; have hq22 : w9.cell? ⟨B2, 2, none⟩ = some (.slice none 0 0) := (blk_cell hx29 2).trans rfl; have fq20 := blk_frozen hx29 0; have fq21 := blk_frozen hx29 1; have fq22 := blk_frozen hx29 2; have HX29 := Aside0.mk hx29; clear hx9 hx29 hb))
    refine bodyPost_ret (results_ct rfl _ _ B2 28 #[.string (⟨#[]⟩ : ByteArray), .string (⟨#[]⟩ : ByteArray), .slice none 0 0] (0, 0) _ rfl (by (with_reducible repeat (first | refine blk_drewN ?_ _ | refine blk_drew ?_ | refine blk_alloc ?_ _)); refine blk_put (cs := #[.string (⟨#[]⟩ : ByteArray), .string (⟨#[]⟩ : ByteArray), .slice none 0 0]) ?_ 2 _ rfl; (with_reducible repeat (first | refine blk_drewN ?_ _ | refine blk_drew ?_ | refine blk_alloc ?_ _)); refine blk_put (cs := #[.string (⟨#[]⟩ : ByteArray), .string (⟨#[]⟩ : ByteArray), .slice none 0 0]) ?_ 1 _ rfl; (with_reducible repeat (first | refine blk_drewN ?_ _ | refine blk_drew ?_ | refine blk_alloc ?_ _)); refine blk_put (cs := #[.string (⟨#[]⟩ : ByteArray), .string (⟨#[]⟩ : ByteArray), .slice none 0 0]) ?_ 0 _ rfl; (with_reducible repeat (first | refine blk_drewN ?_ _ | refine blk_drew ?_ | refine blk_alloc ?_ _)); exact HX28.out) Tryd.underlying28 rfl (by kernel_rfl)) rfl ?_
    exact ⟨_, by first | rfl | (simp; done), Kd.R_nil _ _ _ _ _, (by repeat (first | (with_reducible first | exact HB8.out | apply below_alloc | apply pw_below_drewN | apply below_drew1 | refine below_set ?_ GE2.out) | exact HB8.out))⟩
  | true =>
    rw [if_pos rfl] at h
    obtain ⟨x, htx, h⟩ := Option.bind_eq_some_iff.mp h
    have HIS := Aside0.mk his
    have HTX := Aside0.mk htx
    clear his htx
    by_cases c : x.toList = a0.toList
    · rw [if_pos c] at h
      simp only [Option.some.injEq, Prod.mk.injEq] at h
      obtain ⟨rfl, rfl, rfl, rfl⟩ := h
      have c0 : (x.toList == a0.toList) = true := beq_iff_eq.mpr c
      have cn : (x.toList != a0.toList) = false := bne_eq_false_iff_eq.mpr c
      clear c
      go_enter Tryd.func16, Tryd.ntmps16
      go_wp2_with (first | ((with_reducible refine gate_dst (N := 2) rfl ?_); refine box_event ?hg (N := 2) ?hd (cs := #[.string (⟨#[]⟩ : ByteArray), .string (⟨#[]⟩ : ByteArray), .slice none 0 0]) (t := 28) ?hr ?_; (case hd => rfl); (case hg => rfl); (case hr => first | (go_simp; done) | (go_simp; rfl)); intro B2 hg w2 hx hb; have HX2 := Aside0.mk hx; have GE2 := Aside0.mk (show w.heap.size ≤ B2 from (by rw [hg]; exact Nat.le_refl _)); have HB2 := Aside0.mk hb; clear hg hx hb) | (go_at_call 39; (with_reducible refine (strings_Split.calls a0 (⟨#[126]⟩ : ByteArray) ps _ HSP.out (env_below HE.out HB2.out)).mono ?_); rintro e w3 ⟨v, rfl, hR, hb⟩; obtain ⟨A, cp, rfl, hcp, hC⟩ := Kd.R_reads hR; obtain ⟨ad, eA, hx0⟩ := Kd.at_string hC 0 (by omega) (by have := HPS.out; omega); cases eA; rewrite [show ((0 : Int)).toNat = 0 from rfl, Addr.add_zero'] at hx0; have hlen0 : (0 < ps.length) = True := eq_true (by have := HPS.out; omega); have HX3 := Aside0.mk (blk_below HX2.out hb); have HB3 := Aside0.mk (below_then HB2.out HB2.out.size hb); have HC3 := Aside0.mk hC; have HCP := Aside0.mk hcp; have q1 : (1 : Int) ≤ ((ps.length : Int) : Int) := (by have := HPS.out; omega); obtain ⟨i01, hi01, _, hsz1, _⟩ := info_parts info9; have hcut := cut_from (P := Tryd.prog) 22 9 .i64 Tryd.underlying22 hi01 1 hsz1 (some ad) ps.length cp 1 (by omega) q1; have hD := Kd.C_drop (m := (1 : Int).toNat) (c := cp) hC (by omega) hcp; obtain ⟨A1, hA1⟩ : ∃ A1, A1 = (if cp = (1 : Int).toNat then (some ad) else ((some ad) : Option Addr).map (·.add ((1 : Int).toNat * 1))) := ⟨_, rfl⟩; obtain ⟨cq, hcq⟩ : ∃ c1, c1 = cp - (1 : Int).toNat := ⟨_, rfl⟩; have hn : z.length = ps.length - (1 : Int).toNat := (by rw [HZ.out, List.length_drop]; rfl); rewrite [show (ps).drop (1 : Int).toNat = z from HZ.out.symm] at hD; replace hD : Kd.C Kd.string _ A1 z.length z := (by rw [hA1]; exact hD); rewrite [← hn, ← hA1, ← hcq] at hcut; have HD := Aside0.mk hD; have HCQ := Aside0.mk (show z.length ≤ cq from (by rw [hn, hcq]; exact Nat.sub_le_sub_right hcp _)); clear hD hA1 hcq hn; replace q1 := eq_true q1; clear hR hC hcp hb hi01 hsz1) | (go_at_call 40; (with_reducible refine (strings_Cut.calls (rdOf ByteArray.empty ps 0) (⟨#[33]⟩ : ByteArray) c1 c2 c3 _ HCU.out (env_below HE.out HB3.out)).mono ?_); rintro e w' ⟨rfl, ⟨nd, rfl⟩⟩) | (go_at_call 41; (with_reducible refine (slices_Clone_string_string.calls A1 cq z z _ (Kd.C_drewN HD.out _) HCQ.out HCL.out).mono ?_); rintro e w5 ⟨v, rfl, hR, hb⟩; obtain ⟨Av, cv, rfl, hcv, hCv⟩ := Kd.R_reads hR; have HR5 := Aside0.mk hR; have HX5 := Aside0.mk (blk_below (blk_drewN HX3.out _) hb); have HB5 := Aside0.mk (below_step (pw_below_drewN HB3.out _) hb); clear hR hcv hCv hb) | ((with_reducible refine gate_dst (N := 8) rfl ?_); refine box_event ?hg (N := 8) ?hd (cs := #[.string (⟨#[]⟩ : ByteArray), .string (⟨#[]⟩ : ByteArray), .slice none 0 0]) (t := 28) ?hr ?_; (case hd => rfl); (case hg => rfl); (case hr => first | (go_simp; done) | (go_simp; rfl)); intro B8 hg w6 hx hb; have HX6 := Aside0.mk hx; have HG6 := Aside0.mk (show B2 ≠ B8 from (by rw [hg]; exact Nat.ne_of_lt (blk_lt HX5.out))); have GE8 := Aside0.mk (show w.heap.size ≤ B8 from (by rw [hg]; exact HB5.out.size)); have HX26 := Aside0.mk (blk_below HX5.out hb); have HR6 := Aside0.mk (Kd.R_lower (Kd.R_below HR5.out hb) (show w.heap.size ≤ _ from HB3.out.size)); have HB6 := Aside0.mk (below_then HB5.out HB5.out.size hb); have hzc0 : w6.cell? ⟨B8, 0, none⟩ = some (.string (⟨#[]⟩ : ByteArray)) := (blk_cell hx 0).trans rfl; have hzc1 : w6.cell? ⟨B8, 1, none⟩ = some (.string (⟨#[]⟩ : ByteArray)) := (blk_cell hx 1).trans rfl; have hzc2 : w6.cell? ⟨B8, 2, none⟩ = some (.slice none 0 0) := (blk_cell hx 2).trans rfl; have hzf0 := blk_frozen hx 0; have hzf1 := blk_frozen hx 1; have hzf2 := blk_frozen hx 2; clear hg hx hb) | (go_at_call 22; have HR7 := Aside0.mk (show Kd.R Kd.string 9 (((w6.setCell ⟨B8, 0, none⟩ (.string c1)).setCell ⟨B8, 1, none⟩ (.string c2)).setCell ⟨B8, 2, none⟩ (.slice Av z.length cv)) w.heap.size (fun _ => True) (.slice Av z.length cv) z from (Kd.R_mono (Kd.R_far (p := ⟨B8, 2, none⟩) (Kd.R_far (p := ⟨B8, 1, none⟩) (Kd.R_far (p := ⟨B8, 0, none⟩) (Kd.R_types HR6.out HX6.out (by decide)) (fun _ hk => hk.2) (.string c1)) (fun _ hk => hk.2) (.string c2)) (fun _ hk => hk.2) (.slice Av z.length cv)) (fun _ _ => trivial))); have HX7 := Aside0.mk (show (((w6.setCell ⟨B8, 0, none⟩ (.string c1)).setCell ⟨B8, 1, none⟩ (.string c2)).setCell ⟨B8, 2, none⟩ (.slice Av z.length cv)).heap[B8]? = some (.cells #[.string c1, .string c2, .slice Av z.length cv] 28 (0, 0)) from (by refine blk_put (cs := #[.string c1, .string c2, .slice none 0 0]) ?_ 2 _ rfl; refine blk_put (cs := #[.string c1, .string (⟨#[]⟩ : ByteArray), .slice none 0 0]) ?_ 1 _ rfl; refine blk_put (cs := #[.string (⟨#[]⟩ : ByteArray), .string (⟨#[]⟩ : ByteArray), .slice none 0 0]) ?_ 0 _ rfl; exact HX6.out)); have HX27 := Aside0.mk (show (((w6.setCell ⟨B8, 0, none⟩ (.string c1)).setCell ⟨B8, 1, none⟩ (.string c2)).setCell ⟨B8, 2, none⟩ (.slice Av z.length cv)).heap[B2]? = some (.cells #[.string (⟨#[]⟩ : ByteArray), .string (⟨#[]⟩ : ByteArray), .slice none 0 0] 28 (0, 0)) from (by rw [Below.heap_setCell _ _ _ _ HG6.out, Below.heap_setCell _ _ _ _ HG6.out, Below.heap_setCell _ _ _ _ HG6.out]; exact HX26.out)); have HB7 := Aside0.mk (show Below w.heap.size w (((w6.setCell ⟨B8, 0, none⟩ (.string c1)).setCell ⟨B8, 1, none⟩ (.string c2)).setCell ⟨B8, 2, none⟩ (.slice Av z.length cv)) from below_set (below_set (below_set HB6.out GE8.out) GE8.out) GE8.out); (with_reducible refine (impl_IsScheme.calls c1 c2 Av cv z _ _ (Kd.R_reads' HR7.out).2.2 (Kd.R_reads' HR7.out).2.1 HIS.out).mono ?_); rintro e w8 ⟨rfl, hb⟩; have HR8 := Aside0.mk (Kd.R_below HR7.out hb); have hx8 := blk_below HX7.out hb; have hx28 := blk_below HX27.out hb; have HB8 := Aside0.mk (below_step HB7.out hb); have hp80 : w8.cell? ⟨B8, 0, none⟩ = some (.string c1) := (blk_cell hx8 0).trans rfl; have hp81 : w8.cell? ⟨B8, 1, none⟩ = some (.string c2) := (blk_cell hx8 1).trans rfl; have hp82 : w8.cell? ⟨B8, 2, none⟩ = some (.slice Av z.length cv) := (blk_cell hx8 2).trans rfl; have fp80 := blk_frozen hx8 0; have fp81 := blk_frozen hx8 1; have fp82 := blk_frozen hx8 2; have hp20 : w8.cell? ⟨B2, 0, none⟩ = some (.string (⟨#[]⟩ : ByteArray)) := (blk_cell hx28 0).trans rfl; have hp21 : w8.cell? ⟨B2, 1, none⟩ = some (.string (⟨#[]⟩ : ByteArray)) := (blk_cell hx28 1).trans rfl; have hp22 : w8.cell? ⟨B2, 2, none⟩ = some (.slice none 0 0) := (blk_cell hx28 2).trans rfl; have fp20 := blk_frozen hx28 0; have fp21 := blk_frozen hx28 1; have fp22 := blk_frozen hx28 2; have HX8 := Aside0.mk hx8; have HX28 := Aside0.mk hx28; clear hx8 hx28 hb) | (go_at_call 42; (with_reducible refine (impl_schemeText.calls 2000000 c1 c2 Av cv z _ _ (Kd.R_reads' HR8.out).2.2 (Kd.R_reads' HR8.out).2.1 HTX.out).mono ?_); rintro e w9 ⟨rfl, hb⟩; have HR9 := Aside0.mk (Kd.R_below HR8.out hb); have hx9 := blk_below HX8.out hb; have hx29 := blk_below HX28.out hb; have HB9 := Aside0.mk (below_step HB8.out hb); have hq80 : w9.cell? ⟨B8, 0, none⟩ = some (.string c1) := (blk_cell hx9 0).trans rfl; have hq81 : w9.cell? ⟨B8, 1, none⟩ = some (.string c2) := (blk_cell hx9 1).trans rfl; have hq82 : w9.cell? ⟨B8, 2, none⟩ = some (.slice Av z.length cv) := (blk_cell hx9 2).trans rfl; have fq80 := blk_frozen hx9 0; have fq81 := blk_frozen hx9 1; have fq82 := blk_frozen hx9 2; have hq20 : w9.cell? ⟨B2, 0, none⟩ = some (.string (⟨#[]⟩ : ByteArray)) := (blk_cell hx29 0).trans rfl; have hq21 : w9.cell? ⟨B2, 1, none⟩ = some (.string (⟨#[]⟩ : ByteArray)) := (blk_cell hx29 1).trans rfl; have hq22 : w9.cell? ⟨B2, 2, none⟩ = some (.slice none 0 0) := (blk_cell hx29 2).trans rfl; have fq20 := blk_frozen hx29 0; have fq21 := blk_frozen hx29 1; have fq22 := blk_frozen hx29 2; have HX29 := Aside0.mk hx29; clear hx9 hx29 hb))
      refine bodyPost_ret (results_ct rfl _ _ B2 28 #[.string c1, .string c2, .slice Av z.length cv] (0, 0) _ rfl (by (with_reducible repeat (first | refine blk_drewN ?_ _ | refine blk_drew ?_ | refine blk_alloc ?_ _)); refine blk_put (cs := #[.string c1, .string c2, .slice none 0 0]) ?_ 2 _ rfl; (with_reducible repeat (first | refine blk_drewN ?_ _ | refine blk_drew ?_ | refine blk_alloc ?_ _)); refine blk_put (cs := #[.string c1, .string (⟨#[]⟩ : ByteArray), .slice none 0 0]) ?_ 1 _ rfl; (with_reducible repeat (first | refine blk_drewN ?_ _ | refine blk_drew ?_ | refine blk_alloc ?_ _)); refine blk_put (cs := #[.string (⟨#[]⟩ : ByteArray), .string (⟨#[]⟩ : ByteArray), .slice none 0 0]) ?_ 0 _ rfl; (with_reducible repeat (first | refine blk_drewN ?_ _ | refine blk_drew ?_ | refine blk_alloc ?_ _)); exact HX29.out) Tryd.underlying28 rfl (by kernel_rfl)) rfl ?_
      exact ⟨_, by first | rfl | (simp; done), (Kd.R_mono (Kd.R_far (p := ⟨B2, 2, none⟩) (Kd.R_far (p := ⟨B2, 1, none⟩) (Kd.R_far (p := ⟨B2, 0, none⟩) (Kd.R_types HR9.out HX29.out (by decide)) (fun _ hk => hk.2) (.string c1)) (fun _ hk => hk.2) (.string c2)) (fun _ hk => hk.2) (.slice Av z.length cv)) (fun _ _ => trivial)), (by repeat (first | (with_reducible first | exact HB9.out | apply below_alloc | apply pw_below_drewN | apply below_drew1 | refine below_set ?_ GE2.out) | exact HB9.out))⟩
    · rw [if_neg c] at h
      simp only [Option.some.injEq, Prod.mk.injEq] at h
      obtain ⟨rfl, rfl, rfl, rfl⟩ := h
      have c0 : (x.toList == a0.toList) = false := beq_eq_false_iff_ne.mpr c
      have cn : (x.toList != a0.toList) = true := bne_iff_ne.mpr c
      clear c
      go_enter Tryd.func16, Tryd.ntmps16
      go_wp2_with (first | ((with_reducible refine gate_dst (N := 2) rfl ?_); refine box_event ?hg (N := 2) ?hd (cs := #[.string (⟨#[]⟩ : ByteArray), .string (⟨#[]⟩ : ByteArray), .slice none 0 0]) (t := 28) ?hr ?_; (case hd => rfl); (case hg => rfl); (case hr => first | (go_simp; done) | (go_simp; rfl)); intro B2 hg w2 hx hb; have HX2 := Aside0.mk hx; have GE2 := Aside0.mk (show w.heap.size ≤ B2 from (by rw [hg]; exact Nat.le_refl _)); have HB2 := Aside0.mk hb; clear hg hx hb) | (go_at_call 39; (with_reducible refine (strings_Split.calls a0 (⟨#[126]⟩ : ByteArray) ps _ HSP.out (env_below HE.out HB2.out)).mono ?_); rintro e w3 ⟨v, rfl, hR, hb⟩; obtain ⟨A, cp, rfl, hcp, hC⟩ := Kd.R_reads hR; obtain ⟨ad, eA, hx0⟩ := Kd.at_string hC 0 (by omega) (by have := HPS.out; omega); cases eA; rewrite [show ((0 : Int)).toNat = 0 from rfl, Addr.add_zero'] at hx0; have hlen0 : (0 < ps.length) = True := eq_true (by have := HPS.out; omega); have HX3 := Aside0.mk (blk_below HX2.out hb); have HB3 := Aside0.mk (below_then HB2.out HB2.out.size hb); have HC3 := Aside0.mk hC; have HCP := Aside0.mk hcp; have q1 : (1 : Int) ≤ ((ps.length : Int) : Int) := (by have := HPS.out; omega); obtain ⟨i01, hi01, _, hsz1, _⟩ := info_parts info9; have hcut := cut_from (P := Tryd.prog) 22 9 .i64 Tryd.underlying22 hi01 1 hsz1 (some ad) ps.length cp 1 (by omega) q1; have hD := Kd.C_drop (m := (1 : Int).toNat) (c := cp) hC (by omega) hcp; obtain ⟨A1, hA1⟩ : ∃ A1, A1 = (if cp = (1 : Int).toNat then (some ad) else ((some ad) : Option Addr).map (·.add ((1 : Int).toNat * 1))) := ⟨_, rfl⟩; obtain ⟨cq, hcq⟩ : ∃ c1, c1 = cp - (1 : Int).toNat := ⟨_, rfl⟩; have hn : z.length = ps.length - (1 : Int).toNat := (by rw [HZ.out, List.length_drop]; rfl); rewrite [show (ps).drop (1 : Int).toNat = z from HZ.out.symm] at hD; replace hD : Kd.C Kd.string _ A1 z.length z := (by rw [hA1]; exact hD); rewrite [← hn, ← hA1, ← hcq] at hcut; have HD := Aside0.mk hD; have HCQ := Aside0.mk (show z.length ≤ cq from (by rw [hn, hcq]; exact Nat.sub_le_sub_right hcp _)); clear hD hA1 hcq hn; replace q1 := eq_true q1; clear hR hC hcp hb hi01 hsz1) | (go_at_call 40; (with_reducible refine (strings_Cut.calls (rdOf ByteArray.empty ps 0) (⟨#[33]⟩ : ByteArray) c1 c2 c3 _ HCU.out (env_below HE.out HB3.out)).mono ?_); rintro e w' ⟨rfl, ⟨nd, rfl⟩⟩) | (go_at_call 41; (with_reducible refine (slices_Clone_string_string.calls A1 cq z z _ (Kd.C_drewN HD.out _) HCQ.out HCL.out).mono ?_); rintro e w5 ⟨v, rfl, hR, hb⟩; obtain ⟨Av, cv, rfl, hcv, hCv⟩ := Kd.R_reads hR; have HR5 := Aside0.mk hR; have HX5 := Aside0.mk (blk_below (blk_drewN HX3.out _) hb); have HB5 := Aside0.mk (below_step (pw_below_drewN HB3.out _) hb); clear hR hcv hCv hb) | ((with_reducible refine gate_dst (N := 8) rfl ?_); refine box_event ?hg (N := 8) ?hd (cs := #[.string (⟨#[]⟩ : ByteArray), .string (⟨#[]⟩ : ByteArray), .slice none 0 0]) (t := 28) ?hr ?_; (case hd => rfl); (case hg => rfl); (case hr => first | (go_simp; done) | (go_simp; rfl)); intro B8 hg w6 hx hb; have HX6 := Aside0.mk hx; have HG6 := Aside0.mk (show B2 ≠ B8 from (by rw [hg]; exact Nat.ne_of_lt (blk_lt HX5.out))); have GE8 := Aside0.mk (show w.heap.size ≤ B8 from (by rw [hg]; exact HB5.out.size)); have HX26 := Aside0.mk (blk_below HX5.out hb); have HR6 := Aside0.mk (Kd.R_lower (Kd.R_below HR5.out hb) (show w.heap.size ≤ _ from HB3.out.size)); have HB6 := Aside0.mk (below_then HB5.out HB5.out.size hb); have hzc0 : w6.cell? ⟨B8, 0, none⟩ = some (.string (⟨#[]⟩ : ByteArray)) := (blk_cell hx 0).trans rfl; have hzc1 : w6.cell? ⟨B8, 1, none⟩ = some (.string (⟨#[]⟩ : ByteArray)) := (blk_cell hx 1).trans rfl; have hzc2 : w6.cell? ⟨B8, 2, none⟩ = some (.slice none 0 0) := (blk_cell hx 2).trans rfl; have hzf0 := blk_frozen hx 0; have hzf1 := blk_frozen hx 1; have hzf2 := blk_frozen hx 2; clear hg hx hb) | (go_at_call 22; have HR7 := Aside0.mk (show Kd.R Kd.string 9 (((w6.setCell ⟨B8, 0, none⟩ (.string c1)).setCell ⟨B8, 1, none⟩ (.string c2)).setCell ⟨B8, 2, none⟩ (.slice Av z.length cv)) w.heap.size (fun _ => True) (.slice Av z.length cv) z from (Kd.R_mono (Kd.R_far (p := ⟨B8, 2, none⟩) (Kd.R_far (p := ⟨B8, 1, none⟩) (Kd.R_far (p := ⟨B8, 0, none⟩) (Kd.R_types HR6.out HX6.out (by decide)) (fun _ hk => hk.2) (.string c1)) (fun _ hk => hk.2) (.string c2)) (fun _ hk => hk.2) (.slice Av z.length cv)) (fun _ _ => trivial))); have HX7 := Aside0.mk (show (((w6.setCell ⟨B8, 0, none⟩ (.string c1)).setCell ⟨B8, 1, none⟩ (.string c2)).setCell ⟨B8, 2, none⟩ (.slice Av z.length cv)).heap[B8]? = some (.cells #[.string c1, .string c2, .slice Av z.length cv] 28 (0, 0)) from (by refine blk_put (cs := #[.string c1, .string c2, .slice none 0 0]) ?_ 2 _ rfl; refine blk_put (cs := #[.string c1, .string (⟨#[]⟩ : ByteArray), .slice none 0 0]) ?_ 1 _ rfl; refine blk_put (cs := #[.string (⟨#[]⟩ : ByteArray), .string (⟨#[]⟩ : ByteArray), .slice none 0 0]) ?_ 0 _ rfl; exact HX6.out)); have HX27 := Aside0.mk (show (((w6.setCell ⟨B8, 0, none⟩ (.string c1)).setCell ⟨B8, 1, none⟩ (.string c2)).setCell ⟨B8, 2, none⟩ (.slice Av z.length cv)).heap[B2]? = some (.cells #[.string (⟨#[]⟩ : ByteArray), .string (⟨#[]⟩ : ByteArray), .slice none 0 0] 28 (0, 0)) from (by rw [Below.heap_setCell _ _ _ _ HG6.out, Below.heap_setCell _ _ _ _ HG6.out, Below.heap_setCell _ _ _ _ HG6.out]; exact HX26.out)); have HB7 := Aside0.mk (show Below w.heap.size w (((w6.setCell ⟨B8, 0, none⟩ (.string c1)).setCell ⟨B8, 1, none⟩ (.string c2)).setCell ⟨B8, 2, none⟩ (.slice Av z.length cv)) from below_set (below_set (below_set HB6.out GE8.out) GE8.out) GE8.out); (with_reducible refine (impl_IsScheme.calls c1 c2 Av cv z _ _ (Kd.R_reads' HR7.out).2.2 (Kd.R_reads' HR7.out).2.1 HIS.out).mono ?_); rintro e w8 ⟨rfl, hb⟩; have HR8 := Aside0.mk (Kd.R_below HR7.out hb); have hx8 := blk_below HX7.out hb; have hx28 := blk_below HX27.out hb; have HB8 := Aside0.mk (below_step HB7.out hb); have hp80 : w8.cell? ⟨B8, 0, none⟩ = some (.string c1) := (blk_cell hx8 0).trans rfl; have hp81 : w8.cell? ⟨B8, 1, none⟩ = some (.string c2) := (blk_cell hx8 1).trans rfl; have hp82 : w8.cell? ⟨B8, 2, none⟩ = some (.slice Av z.length cv) := (blk_cell hx8 2).trans rfl; have fp80 := blk_frozen hx8 0; have fp81 := blk_frozen hx8 1; have fp82 := blk_frozen hx8 2; have hp20 : w8.cell? ⟨B2, 0, none⟩ = some (.string (⟨#[]⟩ : ByteArray)) := (blk_cell hx28 0).trans rfl; have hp21 : w8.cell? ⟨B2, 1, none⟩ = some (.string (⟨#[]⟩ : ByteArray)) := (blk_cell hx28 1).trans rfl; have hp22 : w8.cell? ⟨B2, 2, none⟩ = some (.slice none 0 0) := (blk_cell hx28 2).trans rfl; have fp20 := blk_frozen hx28 0; have fp21 := blk_frozen hx28 1; have fp22 := blk_frozen hx28 2; have HX8 := Aside0.mk hx8; have HX28 := Aside0.mk hx28; clear hx8 hx28 hb) | (go_at_call 42; (with_reducible refine (impl_schemeText.calls 2000000 c1 c2 Av cv z _ _ (Kd.R_reads' HR8.out).2.2 (Kd.R_reads' HR8.out).2.1 HTX.out).mono ?_); rintro e w9 ⟨rfl, hb⟩; have HR9 := Aside0.mk (Kd.R_below HR8.out hb); have hx9 := blk_below HX8.out hb; have hx29 := blk_below HX28.out hb; have HB9 := Aside0.mk (below_step HB8.out hb); have hq80 : w9.cell? ⟨B8, 0, none⟩ = some (.string c1) := (blk_cell hx9 0).trans rfl; have hq81 : w9.cell? ⟨B8, 1, none⟩ = some (.string c2) := (blk_cell hx9 1).trans rfl; have hq82 : w9.cell? ⟨B8, 2, none⟩ = some (.slice Av z.length cv) := (blk_cell hx9 2).trans rfl; have fq80 := blk_frozen hx9 0; have fq81 := blk_frozen hx9 1; have fq82 := blk_frozen hx9 2; have hq20 : w9.cell? ⟨B2, 0, none⟩ = some (.string (⟨#[]⟩ : ByteArray)) := (blk_cell hx29 0).trans rfl; have hq21 : w9.cell? ⟨B2, 1, none⟩ = some (.string (⟨#[]⟩ : ByteArray)) := (blk_cell hx29 1).trans rfl; have hq22 : w9.cell? ⟨B2, 2, none⟩ = some (.slice none 0 0) := (blk_cell hx29 2).trans rfl; have fq20 := blk_frozen hx29 0; have fq21 := blk_frozen hx29 1; have fq22 := blk_frozen hx29 2; have HX29 := Aside0.mk hx29; clear hx9 hx29 hb))
      refine bodyPost_ret (results_ct rfl _ _ B2 28 #[.string (⟨#[]⟩ : ByteArray), .string (⟨#[]⟩ : ByteArray), .slice none 0 0] (0, 0) _ rfl (by (with_reducible repeat (first | refine blk_drewN ?_ _ | refine blk_drew ?_ | refine blk_alloc ?_ _)); refine blk_put (cs := #[.string (⟨#[]⟩ : ByteArray), .string (⟨#[]⟩ : ByteArray), .slice none 0 0]) ?_ 2 _ rfl; (with_reducible repeat (first | refine blk_drewN ?_ _ | refine blk_drew ?_ | refine blk_alloc ?_ _)); refine blk_put (cs := #[.string (⟨#[]⟩ : ByteArray), .string (⟨#[]⟩ : ByteArray), .slice none 0 0]) ?_ 1 _ rfl; (with_reducible repeat (first | refine blk_drewN ?_ _ | refine blk_drew ?_ | refine blk_alloc ?_ _)); refine blk_put (cs := #[.string (⟨#[]⟩ : ByteArray), .string (⟨#[]⟩ : ByteArray), .slice none 0 0]) ?_ 0 _ rfl; (with_reducible repeat (first | refine blk_drewN ?_ _ | refine blk_drew ?_ | refine blk_alloc ?_ _)); exact HX29.out) Tryd.underlying28 rfl (by kernel_rfl)) rfl ?_
      exact ⟨_, by first | rfl | (simp; done), Kd.R_nil _ _ _ _ _, (by repeat (first | (with_reducible first | exact HB9.out | apply below_alloc | apply pw_below_drewN | apply below_drew1 | refine below_set ?_ GE2.out) | exact HB9.out))⟩

end Go.Proofs.YtmplmfoacnnieaaDoor.PFnExactParseScheme
