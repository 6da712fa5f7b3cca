-- Laid by a program of this session (wip/myprint.py) out of the translation; some contracts in it are the session's own.
import Derived.Test.YtmplmfoacnnieaaDoorPFnExactAddWordx0
import Derived.Test.YtmplmfoacnnieaaDoorPFnExactAddWordx1
import Derived.Test.YtmplmfoacnnieaaDoorPFnExactAddWordx2
import Derived.Test.YtmplmfoacnnieaaDoorPFnExactAddWordx4
import Derived.Test.YtmplmfoacnnieaaDoorPFnExactAddWordx5
namespace Go.Proofs.YtmplmfoacnnieaaDoor.PFnExactAddWord
open Go.RowKit Go.Proofs.YtmplmfoacnnieaaDoorW.PrintWords Go.Proofs.YtmplmfoacnnieaaDoorW.PrintLast Go.Proofs.YtmplmfoacnnieaaDoorW.PrintMore
attribute [local go_sem] max2_int min2_int max_two min_two max_three min_three max_four min_four   -- for this text's walks alone
set_option linter.unusedVariables false
set_option linter.unusedSimpArgs false

/-! ### laws_FnExactAddWord: function 8 -/
mutual
def laws_FnExactAddWord.j0 : Nat → ByteArray → Bool → Bool → Bool → ByteArray → ByteArray → List ByteArray → ByteArray → ByteArray → List ByteArray → ByteArray → ByteArray → List ByteArray → ByteArray → ByteArray → List ByteArray → Option (Bool)
  | 0, _, _, _, _, _, _, _, _, _, _, _, _, _, _, _, _ => none
  | k + 1, x1, x7, x10, x47, x174000, x174001, x174002, x187000, x187001, x187002, x193000, x193001, x193002, x200000, x200001, x200002 => if x47 = true then (some false) else ((laws_toScheme.f k x174000 x174001 x174002).bind fun bt201 => ((laws_eqScheme.f k x193000 x193001 x193002 bt201.1 bt201.2.1 bt201.2.2).bind fun t206 => (if t206 = true then ((laws_markScheme.f k x193000 x193001 x193002 1).bind fun bt207 => (if bt207.1 < 0 then (laws_FnExactAddWord.j1 k x1 x7 true x174000 x174001 x174002 x187000 x187001 x187002 x200000 x200001 x200002) else ((laws_eqScheme.f k x200000 x200001 x200002 x187000 x187001 x187002).bind fun t209 => (if t209 = true then (laws_FnExactAddWord.j1 k x1 x7 (x10 != x7) x174000 x174001 x174002 x187000 x187001 x187002 x200000 x200001 x200002) else (laws_FnExactAddWord.j1 k x1 x7 true x174000 x174001 x174002 x187000 x187001 x187002 x200000 x200001 x200002))))) else (some false))))
def laws_FnExactAddWord.j1 : Nat → ByteArray → Bool → Bool → ByteArray → ByteArray → List ByteArray → ByteArray → ByteArray → List ByteArray → ByteArray → ByteArray → List ByteArray → Option (Bool)
  | 0, _, _, _, _, _, _, _, _, _, _, _, _ => none
  | k + 1, x1, x7, x68, x174000, x174001, x174002, x187000, x187001, x187002, x200000, x200001, x200002 => if x68 = true then (some false) else ((laws_markScheme.f k x200000 x200001 x200002 1).bind fun bt210 => ((laws_heldScheme.f k x200000 x200001 bt210.2 1).bind fun t212 => (if t212 < 0 then (some false) else (if t212 = bt210.1 then ((laws_toScheme.f k x174000 x174001 x174002).bind fun bt213 => ((impl_AddWord.f k bt213.1 bt213.2.1 bt213.2.2 x1).bind fun bt218 => ((laws_eqScheme.f k bt218.1 bt218.2.1 bt218.2.2.1 x187000 x187001 x187002).bind fun t225 => (if t225 = true then (laws_FnExactAddWord.j2 k bt210.1 (bt218.2.2.2 != x7) x200000 x200001 bt210.2) else (laws_FnExactAddWord.j2 k bt210.1 true x200000 x200001 bt210.2))))) else (some false)))))
def laws_FnExactAddWord.j2 : Nat → Int → Bool → ByteArray → ByteArray → List ByteArray → Option (Bool)
  | 0, _, _, _, _, _ => none
  | k + 1, x12, x95, x200000, x200001, x200002 => if x95 = true then (some false) else ((laws_heldScheme.f k x200000 x200001 x200002 1).bind fun t226 => (if t226 < 0 then (some false) else (if t226 = x12 then (some true) else (some false))))
end
def laws_FnExactAddWord.f (k : Nat) (a0_0 : ByteArray) (a0_1 : ByteArray) (l0_2 : List ByteArray) (a1 : ByteArray) : Option (Bool) := if (a1.size : Int) > 1048576 then (some true) else ((laws_szScheme.f k a0_0 a0_1 l0_2 1048576).bind fun t174 => (if t174 < 0 then (some true) else ((laws_toScheme.f k a0_0 a0_1 l0_2).bind fun bt175 => ((spec_AddWord.f k bt175.1 bt175.2.1 bt175.2.2 a1).bind fun bt180 => ((laws_toScheme.f k a0_0 a0_1 l0_2).bind fun bt187 => ((impl_AddWord.f k bt187.1 bt187.2.1 bt187.2.2 a1).bind fun bt193 => ((laws_eqScheme.f k bt193.1 bt193.2.1 bt193.2.2.1 bt180.1 bt180.2.1 bt180.2.2.1).bind fun t200 => (if t200 = true then (laws_FnExactAddWord.j0 k a1 bt180.2.2.2 bt193.2.2.2 (bt193.2.2.2 != bt180.2.2.2) a0_0 a0_1 l0_2 bt180.1 bt180.2.1 bt180.2.2.1 bt187.1 bt187.2.1 bt187.2.2 bt193.1 bt193.2.1 bt193.2.2.1) else (laws_FnExactAddWord.j0 k a1 bt180.2.2.2 bt193.2.2.2 true a0_0 a0_1 l0_2 bt180.1 bt180.2.1 bt180.2.2.1 bt187.1 bt187.2.1 bt187.2.2 bt193.1 bt193.2.1 bt193.2.2.1)))))))))
theorem laws_FnExactAddWord.mono_l : ∀ k, (∀ y0 y1 y2 y3 y4 y5 y6 y7 y8 y9 y10 y11 y12 y13 y14 y15, LeO (laws_FnExactAddWord.j0 k y0 y1 y2 y3 y4 y5 y6 y7 y8 y9 y10 y11 y12 y13 y14 y15) (laws_FnExactAddWord.j0 (k + 1) y0 y1 y2 y3 y4 y5 y6 y7 y8 y9 y10 y11 y12 y13 y14 y15)) ∧ (∀ y0 y1 y2 y3 y4 y5 y6 y7 y8 y9 y10 y11, LeO (laws_FnExactAddWord.j1 k y0 y1 y2 y3 y4 y5 y6 y7 y8 y9 y10 y11) (laws_FnExactAddWord.j1 (k + 1) y0 y1 y2 y3 y4 y5 y6 y7 y8 y9 y10 y11)) ∧ (∀ y0 y1 y2 y3 y4, LeO (laws_FnExactAddWord.j2 k y0 y1 y2 y3 y4) (laws_FnExactAddWord.j2 (k + 1) y0 y1 y2 y3 y4))
  | 0 => ⟨fun _ _ _ _ _ _ _ _ _ _ _ _ _ _ _ _ r h => by simp [laws_FnExactAddWord.j0] at h, fun _ _ _ _ _ _ _ _ _ _ _ _ r h => by simp [laws_FnExactAddWord.j1] at h, fun _ _ _ _ _ r h => by simp [laws_FnExactAddWord.j2] at h⟩
  | k + 1 => by
    obtain ⟨ih0, ih1, ih2⟩ := laws_FnExactAddWord.mono_l k
    refine ⟨?_, ?_, ?_⟩
    · intro y0 y1 y2 y3 y4 y5 y6 y7 y8 y9 y10 y11 y12 y13 y14 y15
      unfold laws_FnExactAddWord.j0
      repeat' first
      | (with_reducible exact ih0 _ _ _ _ _ _ _ _ _ _ _ _ _ _ _ _)
      | (with_reducible exact ih1 _ _ _ _ _ _ _ _ _ _ _ _)
      | (with_reducible exact ih2 _ _ _ _ _)
      | (with_reducible exact impl_AddWord.mono _ _ _ _ _)
      | (with_reducible exact laws_eqScheme.mono _ _ _ _ _ _ _)
      | (with_reducible exact laws_heldScheme.mono _ _ _ _ _)
      | (with_reducible exact laws_markScheme.mono _ _ _ _ _)
      | (with_reducible exact laws_szScheme.mono _ _ _ _ _)
      | (with_reducible exact laws_toScheme.mono _ _ _ _)
      | (with_reducible exact spec_AddWord.mono _ _ _ _ _)
      | (with_reducible exact LeO.refl _)
      | (with_reducible exact LeO.none _)
      | (with_reducible refine LeO.ite ?_ ?_)
      | (with_reducible refine LeO.bind ?_ (fun _ => ?_))
      | exact ih0 _ _ _ _ _ _ _ _ _ _ _ _ _ _ _ _
      | exact ih1 _ _ _ _ _ _ _ _ _ _ _ _
      | exact ih2 _ _ _ _ _
      | exact impl_AddWord.mono _ _ _ _ _
      | exact laws_eqScheme.mono _ _ _ _ _ _ _
      | exact laws_heldScheme.mono _ _ _ _ _
      | exact laws_markScheme.mono _ _ _ _ _
      | exact laws_szScheme.mono _ _ _ _ _
      | exact laws_toScheme.mono _ _ _ _
      | exact spec_AddWord.mono _ _ _ _ _
      | exact LeO.none _
      | refine LeO.ite ?_ ?_
      | refine LeO.bind ?_ (fun _ => ?_)
    · intro y0 y1 y2 y3 y4 y5 y6 y7 y8 y9 y10 y11
      unfold laws_FnExactAddWord.j1
      repeat' first
      | (with_reducible exact ih0 _ _ _ _ _ _ _ _ _ _ _ _ _ _ _ _)
      | (with_reducible exact ih1 _ _ _ _ _ _ _ _ _ _ _ _)
      | (with_reducible exact ih2 _ _ _ _ _)
      | (with_reducible exact impl_AddWord.mono _ _ _ _ _)
      | (with_reducible exact laws_eqScheme.mono _ _ _ _ _ _ _)
      | (with_reducible exact laws_heldScheme.mono _ _ _ _ _)
      | (with_reducible exact laws_markScheme.mono _ _ _ _ _)
      | (with_reducible exact laws_szScheme.mono _ _ _ _ _)
      | (with_reducible exact laws_toScheme.mono _ _ _ _)
      | (with_reducible exact spec_AddWord.mono _ _ _ _ _)
      | (with_reducible exact LeO.refl _)
      | (with_reducible exact LeO.none _)
      | (with_reducible refine LeO.ite ?_ ?_)
      | (with_reducible refine LeO.bind ?_ (fun _ => ?_))
      | exact ih0 _ _ _ _ _ _ _ _ _ _ _ _ _ _ _ _
      | exact ih1 _ _ _ _ _ _ _ _ _ _ _ _
      | exact ih2 _ _ _ _ _
      | exact impl_AddWord.mono _ _ _ _ _
      | exact laws_eqScheme.mono _ _ _ _ _ _ _
      | exact laws_heldScheme.mono _ _ _ _ _
      | exact laws_markScheme.mono _ _ _ _ _
      | exact laws_szScheme.mono _ _ _ _ _
      | exact laws_toScheme.mono _ _ _ _
      | exact spec_AddWord.mono _ _ _ _ _
      | exact LeO.none _
      | refine LeO.ite ?_ ?_
      | refine LeO.bind ?_ (fun _ => ?_)
    · intro y0 y1 y2 y3 y4
      unfold laws_FnExactAddWord.j2
      repeat' first
      | (with_reducible exact ih0 _ _ _ _ _ _ _ _ _ _ _ _ _ _ _ _)
      | (with_reducible exact ih1 _ _ _ _ _ _ _ _ _ _ _ _)
      | (with_reducible exact ih2 _ _ _ _ _)
      | (with_reducible exact impl_AddWord.mono _ _ _ _ _)
      | (with_reducible exact laws_eqScheme.mono _ _ _ _ _ _ _)
      | (with_reducible exact laws_heldScheme.mono _ _ _ _ _)
      | (with_reducible exact laws_markScheme.mono _ _ _ _ _)
      | (with_reducible exact laws_szScheme.mono _ _ _ _ _)
      | (with_reducible exact laws_toScheme.mono _ _ _ _)
      | (with_reducible exact spec_AddWord.mono _ _ _ _ _)
      | (with_reducible exact LeO.refl _)
      | (with_reducible exact LeO.none _)
      | (with_reducible refine LeO.ite ?_ ?_)
      | (with_reducible refine LeO.bind ?_ (fun _ => ?_))
      | exact ih0 _ _ _ _ _ _ _ _ _ _ _ _ _ _ _ _
      | exact ih1 _ _ _ _ _ _ _ _ _ _ _ _
      | exact ih2 _ _ _ _ _
      | exact impl_AddWord.mono _ _ _ _ _
      | exact laws_eqScheme.mono _ _ _ _ _ _ _
      | exact laws_heldScheme.mono _ _ _ _ _
      | exact laws_markScheme.mono _ _ _ _ _
      | exact laws_szScheme.mono _ _ _ _ _
      | exact laws_toScheme.mono _ _ _ _
      | exact spec_AddWord.mono _ _ _ _ _
      | exact LeO.none _
      | refine LeO.ite ?_ ?_
      | refine LeO.bind ?_ (fun _ => ?_)
theorem laws_FnExactAddWord.mono : ∀ a0 a1 a2 a3 k, LeO (laws_FnExactAddWord.f k a0 a1 a2 a3) (laws_FnExactAddWord.f (k + 1) a0 a1 a2 a3) := by
  intro a0 a1 a2 a3 k
  obtain ⟨ih0, ih1, ih2⟩ := laws_FnExactAddWord.mono_l k
  unfold laws_FnExactAddWord.f
  repeat' first
      | (with_reducible exact ih0 _ _ _ _ _ _ _ _ _ _ _ _ _ _ _ _)
      | (with_reducible exact ih1 _ _ _ _ _ _ _ _ _ _ _ _)
      | (with_reducible exact ih2 _ _ _ _ _)
      | (with_reducible exact impl_AddWord.mono _ _ _ _ _)
      | (with_reducible exact laws_eqScheme.mono _ _ _ _ _ _ _)
      | (with_reducible exact laws_heldScheme.mono _ _ _ _ _)
      | (with_reducible exact laws_markScheme.mono _ _ _ _ _)
      | (with_reducible exact laws_szScheme.mono _ _ _ _ _)
      | (with_reducible exact laws_toScheme.mono _ _ _ _)
      | (with_reducible exact spec_AddWord.mono _ _ _ _ _)
      | (with_reducible exact LeO.refl _)
      | (with_reducible exact LeO.none _)
      | (with_reducible refine LeO.ite ?_ ?_)
      | (with_reducible refine LeO.bind ?_ (fun _ => ?_))
      | exact ih0 _ _ _ _ _ _ _ _ _ _ _ _ _ _ _ _
      | exact ih1 _ _ _ _ _ _ _ _ _ _ _ _
      | exact ih2 _ _ _ _ _
      | exact impl_AddWord.mono _ _ _ _ _
      | exact laws_eqScheme.mono _ _ _ _ _ _ _
      | exact laws_heldScheme.mono _ _ _ _ _
      | exact laws_markScheme.mono _ _ _ _ _
      | exact laws_szScheme.mono _ _ _ _ _
      | exact laws_toScheme.mono _ _ _ _
      | exact spec_AddWord.mono _ _ _ _ _
      | exact LeO.none _
      | refine LeO.ite ?_ ?_
      | refine LeO.bind ?_ (fun _ => ?_)
set_option maxHeartbeats 8000000 in
set_option maxRecDepth 100000 in
theorem laws_FnExactAddWord.calls (k : Nat) (a0_0 : ByteArray) (a0_1 : ByteArray) (A0_2 : Option Addr) (c0_2 : Nat) (l0_2 : List ByteArray) (a1 : ByteArray) (r : Bool) (w : World) (hr0_2 : Kd.C Kd.string w A0_2 l0_2.length l0_2) (hc0_2 : l0_2.length ≤ c0_2) (h : laws_FnExactAddWord.f k a0_0 a0_1 l0_2 a1 = some r) :
    Calls Tryd.prog 8 #[.agg #[.string a0_0, .string a0_1, .slice A0_2 l0_2.length c0_2], .string a1] w fun e w' => e = .returned (.bool r) ∧ Below w.heap.size w w' := by
  have hu24 := Tryd.underlying24
  have hu28 := Tryd.underlying28
  have HR0_2 := Aside0.mk hr0_2
  have HC0_2 := Aside0.mk hc0_2
  clear hr0_2 hc0_2
  have HB := Aside0.mk (Below.refl w.heap.size w)
  have H : (if (a1.size : Int) > 1048576 then (some true) else ((laws_szScheme.f k a0_0 a0_1 l0_2 1048576).bind fun t174 => (if t174 < 0 then (some true) else ((laws_toScheme.f k a0_0 a0_1 l0_2).bind fun bt175 => ((spec_AddWord.f k bt175.1 bt175.2.1 bt175.2.2 a1).bind fun bt180 => ((laws_toScheme.f k a0_0 a0_1 l0_2).bind fun bt187 => ((impl_AddWord.f k bt187.1 bt187.2.1 bt187.2.2 a1).bind fun bt193 => ((laws_eqScheme.f k bt193.1 bt193.2.1 bt193.2.2.1 bt180.1 bt180.2.1 bt180.2.2.1).bind fun t200 => (if t200 = true then (laws_FnExactAddWord.j0 k a1 bt180.2.2.2 bt193.2.2.2 (bt193.2.2.2 != bt180.2.2.2) a0_0 a0_1 l0_2 bt180.1 bt180.2.1 bt180.2.2.1 bt187.1 bt187.2.1 bt187.2.2 bt193.1 bt193.2.1 bt193.2.2.1) else (laws_FnExactAddWord.j0 k a1 bt180.2.2.2 bt193.2.2.2 true a0_0 a0_1 l0_2 bt180.1 bt180.2.1 bt180.2.2.1 bt187.1 bt187.2.1 bt187.2.2 bt193.1 bt193.2.1 bt193.2.2.1)))))))))) = some r := h
  clear h
  by_cases c3 : (a1.size : Int) > 1048576
  · rw [if_pos c3] at H
    have c3b0 : decide (1048576 < (a1.size : Int)) = true := decide_eq_true c3
    have c3b1 : decide (1048576 < a1.size) = true := decide_eq_true (by omega)
    clear c3
    obtain rfl := Option.some.inj H
    go_enter Tryd.func8, Tryd.ntmps8
    go_wp2_with (first | ((with_reducible refine gate_dst (N := 2) rfl ?_); refine box_event ?hg (N := 2) ?hd (cs := #[.string a0_0, .string a0_1, .slice A0_2 l0_2.length c0_2]) (t := 24) ?hr ?_; (case hd => rfl); (case hg => rfl); (case hr => first | (go_simp; done) | (go_simp; rfl)); intro gb173 hg w4 hbox hb; have n0_ := Aside0.mk (below_step (by repeat (first | (with_reducible first | exact HB.out | apply below_alloc | apply pw_below_drewN | apply below_drew1) | exact HB.out)) hb); have n1_ := Aside0.mk (hbox); have n2_ := Aside0.mk ((by rw [hg]; exact (below_size (by repeat (first | (with_reducible first | exact HB.out | apply below_alloc | apply pw_below_drewN | apply below_drew1) | exact HB.out))) : w.heap.size ≤ gb173)); have n3_ := Aside0.mk ((by rw [hg]; exact (below_size (by repeat (first | (with_reducible first | exact HB.out | apply below_alloc | apply pw_below_drewN | apply below_drew1) | exact HB.out))) : w.heap.size ≤ gb173)); clear HB; have HB := n0_; have BK173 := n1_; have GW173 := n2_; have GE173 := n3_; clear n0_ n1_ n2_ n3_; clear hb hbox hg))
    go_ret
    exact ⟨by first | rfl | (simp [errW_none, errW_some] <;> rfl) | (simp [*, errW_none, errW_some] <;> rfl), by repeat (first | (with_reducible first | exact HB.out | apply below_alloc | apply pw_below_drewN | apply below_drew1 | refine below_set ?_ GE173.out) | exact HB.out)⟩
  · rw [if_neg c3] at H
    have c3b0 : decide (1048576 < (a1.size : Int)) = false := decide_eq_false c3
    have c3b1 : decide (1048576 < a1.size) = false := decide_eq_false (by omega)
    clear c3
    replace H := Option.bind_eq_some_iff.mp H
    obtain ⟨t174, A50, H⟩ := H
    replace H : (if t174 < 0 then (some true) else ((laws_toScheme.f k a0_0 a0_1 l0_2).bind fun bt175 => ((spec_AddWord.f k bt175.1 bt175.2.1 bt175.2.2 a1).bind fun bt180 => ((laws_toScheme.f k a0_0 a0_1 l0_2).bind fun bt187 => ((impl_AddWord.f k bt187.1 bt187.2.1 bt187.2.2 a1).bind fun bt193 => ((laws_eqScheme.f k bt193.1 bt193.2.1 bt193.2.2.1 bt180.1 bt180.2.1 bt180.2.2.1).bind fun t200 => (if t200 = true then (laws_FnExactAddWord.j0 k a1 bt180.2.2.2 bt193.2.2.2 (bt193.2.2.2 != bt180.2.2.2) a0_0 a0_1 l0_2 bt180.1 bt180.2.1 bt180.2.2.1 bt187.1 bt187.2.1 bt187.2.2 bt193.1 bt193.2.1 bt193.2.2.1) else (laws_FnExactAddWord.j0 k a1 bt180.2.2.2 bt193.2.2.2 true a0_0 a0_1 l0_2 bt180.1 bt180.2.1 bt180.2.2.1 bt187.1 bt187.2.1 bt187.2.2 bt193.1 bt193.2.1 bt193.2.2.1)))))))) = some r := H
    have A5 := Aside0.mk A50
    clear A50
    by_cases c6 : t174 < 0
    · rw [if_pos c6] at H
      have c6b0 : decide (t174 < 0) = true := decide_eq_true c6
      clear c6
      obtain rfl := Option.some.inj H
      go_enter Tryd.func8, Tryd.ntmps8
      go_wp2_with (first | ((with_reducible refine gate_dst (N := 2) rfl ?_); refine box_event ?hg (N := 2) ?hd (cs := #[.string a0_0, .string a0_1, .slice A0_2 l0_2.length c0_2]) (t := 24) ?hr ?_; (case hd => rfl); (case hg => rfl); (case hr => first | (go_simp; done) | (go_simp; rfl)); intro gb173 hg w7 hbox hb; have n0_ := Aside0.mk (below_step (by repeat (first | (with_reducible first | exact HB.out | apply below_alloc | apply pw_below_drewN | apply below_drew1) | exact HB.out)) hb); have n1_ := Aside0.mk (hbox); have n2_ := Aside0.mk ((by rw [hg]; exact (below_size (by repeat (first | (with_reducible first | exact HB.out | apply below_alloc | apply pw_below_drewN | apply below_drew1) | exact HB.out))) : w.heap.size ≤ gb173)); have n3_ := Aside0.mk ((by rw [hg]; exact (below_size (by repeat (first | (with_reducible first | exact HB.out | apply below_alloc | apply pw_below_drewN | apply below_drew1) | exact HB.out))) : w.heap.size ≤ gb173)); clear HB; have HB := n0_; have BK173 := n1_; have GW173 := n2_; have GE173 := n3_; clear n0_ n1_ n2_ n3_; clear hb hbox hg; have hcz8_0 : w7.cell? ⟨gb173, 0, none⟩ = some (.string a0_0) := (blk_cell BK173.out 0).trans rfl; have hcz8_1 : w7.cell? ⟨gb173, 1, none⟩ = some (.string a0_1) := (blk_cell BK173.out 1).trans rfl; have hcz8_2 : w7.cell? ⟨gb173, 2, none⟩ = some (.slice A0_2 l0_2.length c0_2) := (blk_cell BK173.out 2).trans rfl; have hfz8_0 := blk_frozen BK173.out 0; have hfz8_1 := blk_frozen BK173.out 1; have hfz8_2 := blk_frozen BK173.out 2) | ((with_reducible refine gate_callee (f := 10) rfl ?_); refine goesL_ (some 21) rfl rfl Tryd.func10 (by kernel_rfl) rfl #[.agg #[.string a0_0, .string a0_1, .slice A0_2 l0_2.length c0_2], .int .i64 1048576] rfl (by (try simp only [List.map_toArray, List.map_cons, List.map_nil]); first | done | rfl | (simp only [List.length_drop, List.length_take]; rfl)) ?_; (with_reducible refine (laws_szScheme.calls k a0_0 a0_1 _ _ l0_2 1048576 t174 _ ?side1 ?side2 A5.out).mono ?_); (case side1 => repeat (first | exact (Kd.C_below HR0_2.out HB.out) | (with_reducible refine Kd.C_alloc ?_ _) | (with_reducible refine Kd.C_drewN ?_ _) | (with_reducible refine Kd.C_drew ?_))); (case side2 => exact HC0_2.out); rintro e w9 ⟨rfl, hb⟩; refine ⟨_, rfl, ?_⟩; have n0_ := Aside0.mk (blk_below (g := gb173) (o := .cells #[.string a0_0, .string a0_1, .slice A0_2 l0_2.length c0_2] 24 (0, 0)) (by (with_reducible repeat (first | refine blk_drewN ?_ _ | refine blk_drew ?_ | refine blk_alloc ?_ _)); exact BK173.out) hb); have n1_ := Aside0.mk (below_step (by repeat (first | (with_reducible first | exact HB.out | apply below_alloc | apply pw_below_drewN | apply below_drew1 | refine below_set ?_ GE173.out) | exact HB.out)) hb); clear BK173; clear HB; have BK173 := n0_; have HB := n1_; clear n0_ n1_; (try clear hb); (try clear hb2); (try clear hk); (try clear hi)))
      go_ret
      exact ⟨by first | rfl | (simp [errW_none, errW_some] <;> rfl) | (simp [*, errW_none, errW_some] <;> rfl), by repeat (first | (with_reducible first | exact HB.out | apply below_alloc | apply pw_below_drewN | apply below_drew1 | refine below_set ?_ GE173.out) | exact HB.out)⟩
    · rw [if_neg c6] at H
      have c6b0 : decide (t174 < 0) = false := decide_eq_false c6
      clear c6
      replace H := Option.bind_eq_some_iff.mp H
      obtain ⟨⟨t175, t176, t177⟩, A100, H⟩ := H
      replace H : ((spec_AddWord.f k t175 t176 t177 a1).bind fun bt180 => ((laws_toScheme.f k a0_0 a0_1 l0_2).bind fun bt187 => ((impl_AddWord.f k bt187.1 bt187.2.1 bt187.2.2 a1).bind fun bt193 => ((laws_eqScheme.f k bt193.1 bt193.2.1 bt193.2.2.1 bt180.1 bt180.2.1 bt180.2.2.1).bind fun t200 => (if t200 = true then (laws_FnExactAddWord.j0 k a1 bt180.2.2.2 bt193.2.2.2 (bt193.2.2.2 != bt180.2.2.2) a0_0 a0_1 l0_2 bt180.1 bt180.2.1 bt180.2.2.1 bt187.1 bt187.2.1 bt187.2.2 bt193.1 bt193.2.1 bt193.2.2.1) else (laws_FnExactAddWord.j0 k a1 bt180.2.2.2 bt193.2.2.2 true a0_0 a0_1 l0_2 bt180.1 bt180.2.1 bt180.2.2.1 bt187.1 bt187.2.1 bt187.2.2 bt193.1 bt193.2.1 bt193.2.2.1)))))) = some r := H
      have A10 := Aside0.mk A100
      clear A100
      replace H := Option.bind_eq_some_iff.mp H
      obtain ⟨⟨t180, t181, t182, t185⟩, A110, H⟩ := H
      replace H : ((laws_toScheme.f k a0_0 a0_1 l0_2).bind fun bt187 => ((impl_AddWord.f k bt187.1 bt187.2.1 bt187.2.2 a1).bind fun bt193 => ((laws_eqScheme.f k bt193.1 bt193.2.1 bt193.2.2.1 t180 t181 t182).bind fun t200 => (if t200 = true then (laws_FnExactAddWord.j0 k a1 t185 bt193.2.2.2 (bt193.2.2.2 != t185) a0_0 a0_1 l0_2 t180 t181 t182 bt187.1 bt187.2.1 bt187.2.2 bt193.1 bt193.2.1 bt193.2.2.1) else (laws_FnExactAddWord.j0 k a1 t185 bt193.2.2.2 true a0_0 a0_1 l0_2 t180 t181 t182 bt187.1 bt187.2.1 bt187.2.2 bt193.1 bt193.2.1 bt193.2.2.1))))) = some r := H
      have A11 := Aside0.mk A110
      clear A110
      replace H := Option.bind_eq_some_iff.mp H
      obtain ⟨⟨t187, t188, t189⟩, A120, H⟩ := H
      replace H : ((impl_AddWord.f k t187 t188 t189 a1).bind fun bt193 => ((laws_eqScheme.f k bt193.1 bt193.2.1 bt193.2.2.1 t180 t181 t182).bind fun t200 => (if t200 = true then (laws_FnExactAddWord.j0 k a1 t185 bt193.2.2.2 (bt193.2.2.2 != t185) a0_0 a0_1 l0_2 t180 t181 t182 t187 t188 t189 bt193.1 bt193.2.1 bt193.2.2.1) else (laws_FnExactAddWord.j0 k a1 t185 bt193.2.2.2 true a0_0 a0_1 l0_2 t180 t181 t182 t187 t188 t189 bt193.1 bt193.2.1 bt193.2.2.1)))) = some r := H
      have A12 := Aside0.mk A120
      clear A120
      replace H := Option.bind_eq_some_iff.mp H
      obtain ⟨⟨t193, t194, t195, t198⟩, A130, H⟩ := H
      replace H : ((laws_eqScheme.f k t193 t194 t195 t180 t181 t182).bind fun t200 => (if t200 = true then (laws_FnExactAddWord.j0 k a1 t185 t198 (t198 != t185) a0_0 a0_1 l0_2 t180 t181 t182 t187 t188 t189 t193 t194 t195) else (laws_FnExactAddWord.j0 k a1 t185 t198 true a0_0 a0_1 l0_2 t180 t181 t182 t187 t188 t189 t193 t194 t195))) = some r := H
      have A13 := Aside0.mk A130
      clear A130
      have HC14 := Aside0.mk H
      clear H
      go_enter Tryd.func8, Tryd.ntmps8
      go_upto_region 10 with (first | ((with_reducible refine gate_dst (N := 2) rfl ?_); refine box_event ?hg (N := 2) ?hd (cs := #[.string a0_0, .string a0_1, .slice A0_2 l0_2.length c0_2]) (t := 24) ?hr ?_; (case hd => rfl); (case hg => rfl); (case hr => first | (go_simp; done) | (go_simp; rfl)); intro gb173 hg w15 hbox hb; have n0_ := Aside0.mk (below_step (by repeat (first | (with_reducible first | exact HB.out | apply below_alloc | apply pw_below_drewN | apply below_drew1) | exact HB.out)) hb); have n1_ := Aside0.mk (hbox); have n2_ := Aside0.mk ((by rw [hg]; exact (below_size (by repeat (first | (with_reducible first | exact HB.out | apply below_alloc | apply pw_below_drewN | apply below_drew1) | exact HB.out))) : w.heap.size ≤ gb173)); have n3_ := Aside0.mk ((by rw [hg]; exact (below_size (by repeat (first | (with_reducible first | exact HB.out | apply below_alloc | apply pw_below_drewN | apply below_drew1) | exact HB.out))) : w.heap.size ≤ gb173)); clear HB; have HB := n0_; have BK173 := n1_; have GW173 := n2_; have GE173 := n3_; clear n0_ n1_ n2_ n3_; clear hb hbox hg; have hcz16_0 : w15.cell? ⟨gb173, 0, none⟩ = some (.string a0_0) := (blk_cell BK173.out 0).trans rfl; have hcz16_1 : w15.cell? ⟨gb173, 1, none⟩ = some (.string a0_1) := (blk_cell BK173.out 1).trans rfl; have hcz16_2 : w15.cell? ⟨gb173, 2, none⟩ = some (.slice A0_2 l0_2.length c0_2) := (blk_cell BK173.out 2).trans rfl; have hfz16_0 := blk_frozen BK173.out 0; have hfz16_1 := blk_frozen BK173.out 1; have hfz16_2 := blk_frozen BK173.out 2) | ((with_reducible refine gate_callee (f := 10) rfl ?_); refine goesL_ (some 21) rfl rfl Tryd.func10 (by kernel_rfl) rfl #[.agg #[.string a0_0, .string a0_1, .slice A0_2 l0_2.length c0_2], .int .i64 1048576] rfl (by (try simp only [List.map_toArray, List.map_cons, List.map_nil]); first | done | rfl | (simp only [List.length_drop, List.length_take]; rfl)) ?_; (with_reducible refine (laws_szScheme.calls k a0_0 a0_1 _ _ l0_2 1048576 t174 _ ?side1 ?side2 A5.out).mono ?_); (case side1 => repeat (first | exact (Kd.C_below HR0_2.out HB.out) | (with_reducible refine Kd.C_alloc ?_ _) | (with_reducible refine Kd.C_drewN ?_ _) | (with_reducible refine Kd.C_drew ?_))); (case side2 => exact HC0_2.out); rintro e w17 ⟨rfl, hb⟩; refine ⟨_, rfl, ?_⟩; have n0_ := Aside0.mk (blk_below (g := gb173) (o := .cells #[.string a0_0, .string a0_1, .slice A0_2 l0_2.length c0_2] 24 (0, 0)) (by (with_reducible repeat (first | refine blk_drewN ?_ _ | refine blk_drew ?_ | refine blk_alloc ?_ _)); exact BK173.out) hb); have n1_ := Aside0.mk (below_step (by repeat (first | (with_reducible first | exact HB.out | apply below_alloc | apply pw_below_drewN | apply below_drew1 | refine below_set ?_ GE173.out) | exact HB.out)) hb); clear BK173; clear HB; have BK173 := n0_; have HB := n1_; clear n0_ n1_; (try clear hb); (try clear hb2); (try clear hk); (try clear hi); have hcz18_0 : w17.cell? ⟨gb173, 0, none⟩ = some (.string a0_0) := (blk_cell BK173.out 0).trans rfl; have hcz18_1 : w17.cell? ⟨gb173, 1, none⟩ = some (.string a0_1) := (blk_cell BK173.out 1).trans rfl; have hcz18_2 : w17.cell? ⟨gb173, 2, none⟩ = some (.slice A0_2 l0_2.length c0_2) := (blk_cell BK173.out 2).trans rfl; have hfz18_0 := blk_frozen BK173.out 0; have hfz18_1 := blk_frozen BK173.out 1; have hfz18_2 := blk_frozen BK173.out 2) | ((with_reducible refine gate_callee (f := 12) rfl ?_); refine goesL_ (some 26) rfl rfl Tryd.func12 (by kernel_rfl) rfl #[.agg #[.string a0_0, .string a0_1, .slice A0_2 l0_2.length c0_2]] rfl (by (try simp only [List.map_toArray, List.map_cons, List.map_nil]); first | done | rfl | (simp only [List.length_drop, List.length_take]; rfl)) ?_; (with_reducible refine (laws_toScheme.calls k a0_0 a0_1 _ _ l0_2 t175 t176 t177 _ ?side1 ?side2 A10.out).mono ?_); (case side1 => repeat (first | exact (Kd.C_below HR0_2.out HB.out) | (with_reducible refine Kd.C_alloc ?_ _) | (with_reducible refine Kd.C_drewN ?_ _) | (with_reducible refine Kd.C_drew ?_))); (case side2 => exact HC0_2.out); rintro e w19 ⟨v178, rfl, ho0, hb⟩; refine ⟨_, rfl, ?_⟩; have n0_ := Aside0.mk (Kd.R_lower ho0 (below_size (by repeat (first | (with_reducible first | exact HB.out | apply below_alloc | apply pw_below_drewN | apply below_drew1 | refine below_set ?_ GE173.out) | exact HB.out)))); have n1_ := Aside0.mk (blk_below (g := gb173) (o := .cells #[.string a0_0, .string a0_1, .slice A0_2 l0_2.length c0_2] 24 (0, 0)) (by (with_reducible repeat (first | refine blk_drewN ?_ _ | refine blk_drew ?_ | refine blk_alloc ?_ _)); exact BK173.out) hb); have n2_ := Aside0.mk (below_step (by repeat (first | (with_reducible first | exact HB.out | apply below_alloc | apply pw_below_drewN | apply below_drew1 | refine below_set ?_ GE173.out) | exact HB.out)) hb); clear BK173; clear HB; have HO179 := n0_; have BK173 := n1_; have HB := n2_; clear n0_ n1_ n2_; (try clear hb); (try clear hb2); (try clear hk); (try clear hi); (try clear ho0); obtain ⟨Ao20, co20, eo20⟩ := Kd.R_slice HO179.out; subst eo20) | ((with_reducible refine gate_callee (f := 25) rfl ?_); refine goesL_ (some 28) rfl rfl Tryd.func25 (by kernel_rfl) rfl #[.agg #[.string t175, .string t176, .slice Ao20 t177.length co20], .string a1] rfl (by (try simp only [List.map_toArray, List.map_cons, List.map_nil]); first | done | rfl | (simp only [List.length_drop, List.length_take]; rfl)) ?_; (with_reducible refine (spec_AddWord.calls k t175 t176 _ _ t177 a1 t180 t181 t182 t185 _ ?side1 ?side2 A11.out).mono ?_); (case side1 => repeat (first | exact (Kd.R_reads' HO179.out).2.2 | (with_reducible refine Kd.C_alloc ?_ _) | (with_reducible refine Kd.C_drewN ?_ _) | (with_reducible refine Kd.C_drew ?_))); (case side2 => exact (Kd.R_reads' HO179.out).2.1); rintro e w21 ⟨v183, rfl, ho0, hb⟩; refine ⟨_, rfl, ?_⟩; have n0_ := Aside0.mk (Kd.R_elder' (by (with_reducible repeat (first | apply Kd.R_alloc | apply Kd.R_drewN | apply Kd.R_drew)); exact HO179.out) (Kd.R_base ho0) hb); have n1_ := Aside0.mk (Kd.R_lower (Kd.R_new' ho0 (Kd.R_lt (by (with_reducible repeat (first | apply Kd.R_alloc | apply Kd.R_drewN | apply Kd.R_drew)); exact HO179.out))) (below_size (by repeat (first | (with_reducible first | exact HB.out | apply below_alloc | apply pw_below_drewN | apply below_drew1 | refine below_set ?_ GE173.out) | exact HB.out)))); have n2_ := Aside0.mk (blk_below (g := gb173) (o := .cells #[.string a0_0, .string a0_1, .slice A0_2 l0_2.length c0_2] 24 (0, 0)) (by (with_reducible repeat (first | refine blk_drewN ?_ _ | refine blk_drew ?_ | refine blk_alloc ?_ _)); exact BK173.out) hb); have n3_ := Aside0.mk (below_step (by repeat (first | (with_reducible first | exact HB.out | apply below_alloc | apply pw_below_drewN | apply below_drew1 | refine below_set ?_ GE173.out) | exact HB.out)) hb); clear HO179; clear BK173; clear HB; have HO179 := n0_; have HO184 := n1_; have BK173 := n2_; have HB := n3_; clear n0_ n1_ n2_ n3_; (try clear hb); (try clear hb2); (try clear hk); (try clear hi); (try clear ho0)) | ((with_reducible refine gate_dst (N := 6) rfl ?_); refine box_event ?hg (N := 6) ?hd (cs := #[.string (⟨#[]⟩ : ByteArray), .string (⟨#[]⟩ : ByteArray), .slice none 0 0]) (t := 28) ?hr ?_; (case hd => rfl); (case hg => rfl); (case hr => first | (go_simp; done) | (go_simp; rfl)); intro gb186 hg w22 hbox hb; have n0_ := Aside0.mk (Kd.R_below (by (with_reducible repeat (first | apply Kd.R_alloc | apply Kd.R_drewN | apply Kd.R_drew)); exact HO179.out) hb); have n1_ := Aside0.mk (Kd.R_below (by (with_reducible repeat (first | apply Kd.R_alloc | apply Kd.R_drewN | apply Kd.R_drew)); exact HO184.out) hb); have n2_ := Aside0.mk (blk_below (g := gb173) (o := .cells #[.string a0_0, .string a0_1, .slice A0_2 l0_2.length c0_2] 24 (0, 0)) (by (with_reducible repeat (first | refine blk_drewN ?_ _ | refine blk_drew ?_ | refine blk_alloc ?_ _)); exact BK173.out) hb); have n3_ := Aside0.mk (below_step (by repeat (first | (with_reducible first | exact HB.out | apply below_alloc | apply pw_below_drewN | apply below_drew1 | refine below_set ?_ GE173.out) | exact HB.out)) hb); have n4_ := Aside0.mk (hbox); have n5_ := Aside0.mk ((by rw [hg]; exact (below_size (by repeat (first | (with_reducible first | exact HB.out | apply below_alloc | apply pw_below_drewN | apply below_drew1 | refine below_set ?_ GE173.out) | exact HB.out))) : w.heap.size ≤ gb186)); have n6_ := Aside0.mk ((by rw [hg]; exact (below_size (by repeat (first | (with_reducible first | exact HB.out | apply below_alloc | apply pw_below_drewN | apply below_drew1 | refine below_set ?_ GE173.out) | exact HB.out))) : w.heap.size ≤ gb186)); have n7_ := Aside0.mk ((by rw [hg]; exact Nat.ne_of_lt (blk_lt (g := gb173) (o := .cells #[.string a0_0, .string a0_1, .slice A0_2 l0_2.length c0_2] 24 (0, 0)) (by (with_reducible repeat (first | refine blk_drewN ?_ _ | refine blk_drew ?_ | refine blk_alloc ?_ _)); exact BK173.out)) : gb173 ≠ gb186)); have n8_ := Aside0.mk ((by rw [hg]; exact Nat.ne_of_gt (blk_lt (g := gb173) (o := .cells #[.string a0_0, .string a0_1, .slice A0_2 l0_2.length c0_2] 24 (0, 0)) (by (with_reducible repeat (first | refine blk_drewN ?_ _ | refine blk_drew ?_ | refine blk_alloc ?_ _)); exact BK173.out)) : gb186 ≠ gb173)); clear HO179; clear HO184; clear BK173; clear HB; have HO179 := n0_; have HO184 := n1_; have BK173 := n2_; have HB := n3_; have BK186 := n4_; have GW186 := n5_; have GE186 := n6_; have NB173_186 := n7_; have NB186_173 := n8_; clear n0_ n1_ n2_ n3_ n4_ n5_ n6_ n7_ n8_; clear hb hbox hg; have hnb23 := NB186_173.out; have hnc23 := NB173_186.out; have hcz24_0 : w22.cell? ⟨gb186, 0, none⟩ = some (.string (⟨#[]⟩ : ByteArray)) := (blk_cell BK186.out 0).trans rfl; have hcz24_1 : w22.cell? ⟨gb186, 1, none⟩ = some (.string (⟨#[]⟩ : ByteArray)) := (blk_cell BK186.out 1).trans rfl; have hcz24_2 : w22.cell? ⟨gb186, 2, none⟩ = some (.slice none 0 0) := (blk_cell BK186.out 2).trans rfl; have hfz24_0 := blk_frozen BK186.out 0; have hfz24_1 := blk_frozen BK186.out 1; have hfz24_2 := blk_frozen BK186.out 2; obtain ⟨Ao25, co25, eo25⟩ := Kd.R_slice HO184.out; subst eo25; have hcz26_0 : w22.cell? ⟨gb173, 0, none⟩ = some (.string a0_0) := (blk_cell BK173.out 0).trans rfl; have hcz26_1 : w22.cell? ⟨gb173, 1, none⟩ = some (.string a0_1) := (blk_cell BK173.out 1).trans rfl; have hcz26_2 : w22.cell? ⟨gb173, 2, none⟩ = some (.slice A0_2 l0_2.length c0_2) := (blk_cell BK173.out 2).trans rfl; have hfz26_0 := blk_frozen BK173.out 0; have hfz26_1 := blk_frozen BK173.out 1; have hfz26_2 := blk_frozen BK173.out 2) | ((with_reducible refine gate_callee (f := 12) rfl ?_); refine goesL_ (some 32) rfl rfl Tryd.func12 (by kernel_rfl) rfl #[.agg #[.string a0_0, .string a0_1, .slice A0_2 l0_2.length c0_2]] rfl (by (try simp only [List.map_toArray, List.map_cons, List.map_nil]); first | done | rfl | (simp only [List.length_drop, List.length_take]; rfl)) ?_; (with_reducible refine (laws_toScheme.calls k a0_0 a0_1 _ _ l0_2 t187 t188 t189 _ ?side1 ?side2 A12.out).mono ?_); (case side1 => exact Kd.C_below HR0_2.out (by repeat (first | (with_reducible first | exact HB.out | apply below_alloc | apply pw_below_drewN | apply below_drew1 | refine below_set ?_ GE173.out | refine below_set ?_ GE186.out) | exact HB.out))); (case side2 => exact HC0_2.out); rintro e w27 ⟨v190, rfl, ho0, hb⟩; refine ⟨_, rfl, ?_⟩; have n0_ := Aside0.mk (Kd.R_elder' (by (with_reducible repeat (first | apply Kd.R_alloc | apply Kd.R_drewN | apply Kd.R_drew)); exact (Kd.R_mono (Kd.R_far (p := ⟨gb186, 2, none⟩) (Kd.R_far (p := ⟨gb186, 1, none⟩) (Kd.R_far (p := ⟨gb186, 0, none⟩) (Kd.R_types HO179.out BK186.out (by decide)) (fun _ hk => hk.2) (.string t180)) (fun _ hk => hk.2) (.string t181)) (fun _ hk => hk.2) (.slice Ao25 t182.length co25)) (fun _ h_ => h_.1))) (Kd.R_base ho0) hb); have n1_ := Aside0.mk (Kd.R_elder' (by (with_reducible repeat (first | apply Kd.R_alloc | apply Kd.R_drewN | apply Kd.R_drew)); exact (Kd.R_mono (Kd.R_far (p := ⟨gb186, 2, none⟩) (Kd.R_far (p := ⟨gb186, 1, none⟩) (Kd.R_far (p := ⟨gb186, 0, none⟩) (Kd.R_types HO184.out BK186.out (by decide)) (fun _ hk => hk.2) (.string t180)) (fun _ hk => hk.2) (.string t181)) (fun _ hk => hk.2) (.slice Ao25 t182.length co25)) (fun _ h_ => h_.1))) (Kd.R_base ho0) hb); have n2_ := Aside0.mk (Kd.R_lower (Kd.R_new' (Kd.R_new' ho0 (Kd.R_lt (by (with_reducible repeat (first | apply Kd.R_alloc | apply Kd.R_drewN | apply Kd.R_drew)); exact (Kd.R_mono (Kd.R_far (p := ⟨gb186, 2, none⟩) (Kd.R_far (p := ⟨gb186, 1, none⟩) (Kd.R_far (p := ⟨gb186, 0, none⟩) (Kd.R_types HO179.out BK186.out (by decide)) (fun _ hk => hk.2) (.string t180)) (fun _ hk => hk.2) (.string t181)) (fun _ hk => hk.2) (.slice Ao25 t182.length co25)) (fun _ h_ => h_.1))))) (Kd.R_lt (by (with_reducible repeat (first | apply Kd.R_alloc | apply Kd.R_drewN | apply Kd.R_drew)); exact (Kd.R_mono (Kd.R_far (p := ⟨gb186, 2, none⟩) (Kd.R_far (p := ⟨gb186, 1, none⟩) (Kd.R_far (p := ⟨gb186, 0, none⟩) (Kd.R_types HO184.out BK186.out (by decide)) (fun _ hk => hk.2) (.string t180)) (fun _ hk => hk.2) (.string t181)) (fun _ hk => hk.2) (.slice Ao25 t182.length co25)) (fun _ h_ => h_.1))))) (below_size (by repeat (first | (with_reducible first | exact HB.out | apply below_alloc | apply pw_below_drewN | apply below_drew1 | refine below_set ?_ GE173.out | refine below_set ?_ GE186.out) | exact HB.out)))); have n3_ := Aside0.mk (blk_below (g := gb173) (o := .cells #[.string a0_0, .string a0_1, .slice A0_2 l0_2.length c0_2] 24 (0, 0)) (by (with_reducible repeat (first | refine blk_drewN ?_ _ | refine blk_drew ?_ | refine blk_alloc ?_ _)); refine blk_far ?_ NB173_186.out _; (with_reducible repeat (first | refine blk_drewN ?_ _ | refine blk_drew ?_ | refine blk_alloc ?_ _)); refine blk_far ?_ NB173_186.out _; (with_reducible repeat (first | refine blk_drewN ?_ _ | refine blk_drew ?_ | refine blk_alloc ?_ _)); refine blk_far ?_ NB173_186.out _; (with_reducible repeat (first | refine blk_drewN ?_ _ | refine blk_drew ?_ | refine blk_alloc ?_ _)); exact BK173.out) hb); have n4_ := Aside0.mk (blk_below (g := gb186) (o := .cells #[.string t180, .string t181, .slice Ao25 t182.length co25] 28 (0, 0)) (by (with_reducible repeat (first | refine blk_drewN ?_ _ | refine blk_drew ?_ | refine blk_alloc ?_ _)); refine blk_put (cs := #[.string t180, .string t181, .slice none 0 0]) ?_ 2 _ rfl; (with_reducible repeat (first | refine blk_drewN ?_ _ | refine blk_drew ?_ | refine blk_alloc ?_ _)); refine blk_put (cs := #[.string t180, .string (⟨#[]⟩ : ByteArray), .slice none 0 0]) ?_ 1 _ rfl; (with_reducible repeat (first | refine blk_drewN ?_ _ | refine blk_drew ?_ | refine blk_alloc ?_ _)); refine blk_put (cs := #[.string (⟨#[]⟩ : ByteArray), .string (⟨#[]⟩ : ByteArray), .slice none 0 0]) ?_ 0 _ rfl; (with_reducible repeat (first | refine blk_drewN ?_ _ | refine blk_drew ?_ | refine blk_alloc ?_ _)); exact BK186.out) hb); have n5_ := Aside0.mk (below_step (by repeat (first | (with_reducible first | exact HB.out | apply below_alloc | apply pw_below_drewN | apply below_drew1 | refine below_set ?_ GE173.out | refine below_set ?_ GE186.out) | exact HB.out)) hb); clear HO179; clear HO184; clear BK173; clear BK186; clear HB; have HO179 := n0_; have HO184 := n1_; have HO191 := n2_; have BK173 := n3_; have BK186 := n4_; have HB := n5_; clear n0_ n1_ n2_ n3_ n4_ n5_; (try clear hb); (try clear hb2); (try clear hk); (try clear hi); (try clear ho0)) | ((with_reducible refine gate_dst (N := 8) rfl ?_); refine box_event ?hg (N := 8) ?hd (cs := #[.string (⟨#[]⟩ : ByteArray), .string (⟨#[]⟩ : ByteArray), .slice none 0 0]) (t := 28) ?hr ?_; (case hd => rfl); (case hg => rfl); (case hr => first | (go_simp; done) | (go_simp; rfl)); intro gb192 hg w28 hbox hb; have n0_ := Aside0.mk (Kd.R_below (by (with_reducible repeat (first | apply Kd.R_alloc | apply Kd.R_drewN | apply Kd.R_drew)); exact HO179.out) hb); have n1_ := Aside0.mk (Kd.R_below (by (with_reducible repeat (first | apply Kd.R_alloc | apply Kd.R_drewN | apply Kd.R_drew)); exact HO184.out) hb); have n2_ := Aside0.mk (Kd.R_below (by (with_reducible repeat (first | apply Kd.R_alloc | apply Kd.R_drewN | apply Kd.R_drew)); exact HO191.out) hb); have n3_ := Aside0.mk (blk_below (g := gb173) (o := .cells #[.string a0_0, .string a0_1, .slice A0_2 l0_2.length c0_2] 24 (0, 0)) (by (with_reducible repeat (first | refine blk_drewN ?_ _ | refine blk_drew ?_ | refine blk_alloc ?_ _)); exact BK173.out) hb); have n4_ := Aside0.mk (blk_below (g := gb186) (o := .cells #[.string t180, .string t181, .slice Ao25 t182.length co25] 28 (0, 0)) (by (with_reducible repeat (first | refine blk_drewN ?_ _ | refine blk_drew ?_ | refine blk_alloc ?_ _)); exact BK186.out) hb); have n5_ := Aside0.mk (below_step (by repeat (first | (with_reducible first | exact HB.out | apply below_alloc | apply pw_below_drewN | apply below_drew1 | refine below_set ?_ GE173.out | refine below_set ?_ GE186.out) | exact HB.out)) hb); have n6_ := Aside0.mk (hbox); have n7_ := Aside0.mk ((by rw [hg]; exact (below_size (by repeat (first | (with_reducible first | exact HB.out | apply below_alloc | apply pw_below_drewN | apply below_drew1 | refine below_set ?_ GE173.out | refine below_set ?_ GE186.out) | exact HB.out))) : w.heap.size ≤ gb192)); have n8_ := Aside0.mk ((by rw [hg]; exact (below_size (by repeat (first | (with_reducible first | exact HB.out | apply below_alloc | apply pw_below_drewN | apply below_drew1 | refine below_set ?_ GE173.out | refine below_set ?_ GE186.out) | exact HB.out))) : w.heap.size ≤ gb192)); have n9_ := Aside0.mk ((by rw [hg]; exact Nat.ne_of_lt (blk_lt (g := gb173) (o := .cells #[.string a0_0, .string a0_1, .slice A0_2 l0_2.length c0_2] 24 (0, 0)) (by (with_reducible repeat (first | refine blk_drewN ?_ _ | refine blk_drew ?_ | refine blk_alloc ?_ _)); exact BK173.out)) : gb173 ≠ gb192)); have n10_ := Aside0.mk ((by rw [hg]; exact Nat.ne_of_gt (blk_lt (g := gb173) (o := .cells #[.string a0_0, .string a0_1, .slice A0_2 l0_2.length c0_2] 24 (0, 0)) (by (with_reducible repeat (first | refine blk_drewN ?_ _ | refine blk_drew ?_ | refine blk_alloc ?_ _)); exact BK173.out)) : gb192 ≠ gb173)); have n11_ := Aside0.mk ((by rw [hg]; exact Nat.ne_of_lt (blk_lt (g := gb186) (o := .cells #[.string t180, .string t181, .slice Ao25 t182.length co25] 28 (0, 0)) (by (with_reducible repeat (first | refine blk_drewN ?_ _ | refine blk_drew ?_ | refine blk_alloc ?_ _)); exact BK186.out)) : gb186 ≠ gb192)); have n12_ := Aside0.mk ((by rw [hg]; exact Nat.ne_of_gt (blk_lt (g := gb186) (o := .cells #[.string t180, .string t181, .slice Ao25 t182.length co25] 28 (0, 0)) (by (with_reducible repeat (first | refine blk_drewN ?_ _ | refine blk_drew ?_ | refine blk_alloc ?_ _)); exact BK186.out)) : gb192 ≠ gb186)); clear HO179; clear HO184; clear HO191; clear BK173; clear BK186; clear HB; have HO179 := n0_; have HO184 := n1_; have HO191 := n2_; have BK173 := n3_; have BK186 := n4_; have HB := n5_; have BK192 := n6_; have GW192 := n7_; have GE192 := n8_; have NB173_192 := n9_; have NB192_173 := n10_; have NB186_192 := n11_; have NB192_186 := n12_; clear n0_ n1_ n2_ n3_ n4_ n5_ n6_ n7_ n8_ n9_ n10_ n11_ n12_; clear hb hbox hg; have hnb29 := NB192_173.out; have hnc29 := NB173_192.out; have hnb30 := NB192_186.out; have hnc30 := NB186_192.out; have hcz31_0 : w28.cell? ⟨gb192, 0, none⟩ = some (.string (⟨#[]⟩ : ByteArray)) := (blk_cell BK192.out 0).trans rfl; have hcz31_1 : w28.cell? ⟨gb192, 1, none⟩ = some (.string (⟨#[]⟩ : ByteArray)) := (blk_cell BK192.out 1).trans rfl; have hcz31_2 : w28.cell? ⟨gb192, 2, none⟩ = some (.slice none 0 0) := (blk_cell BK192.out 2).trans rfl; have hfz31_0 := blk_frozen BK192.out 0; have hfz31_1 := blk_frozen BK192.out 1; have hfz31_2 := blk_frozen BK192.out 2; obtain ⟨Ao32, co32, eo32⟩ := Kd.R_slice HO191.out; subst eo32) | ((with_reducible refine gate_callee (f := 26) rfl ?_); refine goesL_ (some 36) rfl rfl Tryd.func26 (by kernel_rfl) rfl #[.agg #[.string t187, .string t188, .slice Ao32 t189.length co32], .string a1] rfl (by (try simp only [List.map_toArray, List.map_cons, List.map_nil]); first | done | rfl | (simp only [List.length_drop, List.length_take]; rfl)) ?_; (with_reducible refine (impl_AddWord.calls k t187 t188 _ _ t189 a1 t193 t194 t195 t198 _ ?side1 ?side2 A13.out).mono ?_); (case side1 => refine (Kd.R_reads' (e := 9) (base := w.heap.size) (ok := fun k_ => ((True ∧ some k_ ≠ (.slice Ao20 t177.length co20 : Value).ownBlock) ∧ some k_ ≠ (.slice Ao25 t182.length co25 : Value).ownBlock)) (n := t189.length) (c := co32) ?_).2.2; exact (by (with_reducible repeat (first | apply Kd.R_alloc | apply Kd.R_drewN | apply Kd.R_drew)); exact (Kd.R_mono (Kd.R_far (p := ⟨gb192, 2, none⟩) (Kd.R_far (p := ⟨gb192, 1, none⟩) (Kd.R_far (p := ⟨gb192, 0, none⟩) (Kd.R_types HO191.out BK192.out (by decide)) (fun _ hk => hk.2) (.string t187)) (fun _ hk => hk.2) (.string t188)) (fun _ hk => hk.2) (.slice Ao32 t189.length co32)) (fun _ h_ => h_.1)))); (case side2 => exact (Kd.R_reads' HO191.out).2.1); rintro e w33 ⟨v196, rfl, ho0, hb⟩; refine ⟨_, rfl, ?_⟩; have n0_ := Aside0.mk (Kd.R_elder' (by (with_reducible repeat (first | apply Kd.R_alloc | apply Kd.R_drewN | apply Kd.R_drew)); exact (Kd.R_mono (Kd.R_far (p := ⟨gb192, 2, none⟩) (Kd.R_far (p := ⟨gb192, 1, none⟩) (Kd.R_far (p := ⟨gb192, 0, none⟩) (Kd.R_types HO179.out BK192.out (by decide)) (fun _ hk => hk.2) (.string t187)) (fun _ hk => hk.2) (.string t188)) (fun _ hk => hk.2) (.slice Ao32 t189.length co32)) (fun _ h_ => h_.1))) (Kd.R_base ho0) hb); have n1_ := Aside0.mk (Kd.R_elder' (by (with_reducible repeat (first | apply Kd.R_alloc | apply Kd.R_drewN | apply Kd.R_drew)); exact (Kd.R_mono (Kd.R_far (p := ⟨gb192, 2, none⟩) (Kd.R_far (p := ⟨gb192, 1, none⟩) (Kd.R_far (p := ⟨gb192, 0, none⟩) (Kd.R_types HO184.out BK192.out (by decide)) (fun _ hk => hk.2) (.string t187)) (fun _ hk => hk.2) (.string t188)) (fun _ hk => hk.2) (.slice Ao32 t189.length co32)) (fun _ h_ => h_.1))) (Kd.R_base ho0) hb); have n2_ := Aside0.mk (Kd.R_elder' (by (with_reducible repeat (first | apply Kd.R_alloc | apply Kd.R_drewN | apply Kd.R_drew)); exact (Kd.R_mono (Kd.R_far (p := ⟨gb192, 2, none⟩) (Kd.R_far (p := ⟨gb192, 1, none⟩) (Kd.R_far (p := ⟨gb192, 0, none⟩) (Kd.R_types HO191.out BK192.out (by decide)) (fun _ hk => hk.2) (.string t187)) (fun _ hk => hk.2) (.string t188)) (fun _ hk => hk.2) (.slice Ao32 t189.length co32)) (fun _ h_ => h_.1))) (Kd.R_base ho0) hb); have n3_ := Aside0.mk (Kd.R_lower (Kd.R_new' (Kd.R_new' (Kd.R_new' ho0 (Kd.R_lt (by (with_reducible repeat (first | apply Kd.R_alloc | apply Kd.R_drewN | apply Kd.R_drew)); exact (Kd.R_mono (Kd.R_far (p := ⟨gb192, 2, none⟩) (Kd.R_far (p := ⟨gb192, 1, none⟩) (Kd.R_far (p := ⟨gb192, 0, none⟩) (Kd.R_types HO179.out BK192.out (by decide)) (fun _ hk => hk.2) (.string t187)) (fun _ hk => hk.2) (.string t188)) (fun _ hk => hk.2) (.slice Ao32 t189.length co32)) (fun _ h_ => h_.1))))) (Kd.R_lt (by (with_reducible repeat (first | apply Kd.R_alloc | apply Kd.R_drewN | apply Kd.R_drew)); exact (Kd.R_mono (Kd.R_far (p := ⟨gb192, 2, none⟩) (Kd.R_far (p := ⟨gb192, 1, none⟩) (Kd.R_far (p := ⟨gb192, 0, none⟩) (Kd.R_types HO184.out BK192.out (by decide)) (fun _ hk => hk.2) (.string t187)) (fun _ hk => hk.2) (.string t188)) (fun _ hk => hk.2) (.slice Ao32 t189.length co32)) (fun _ h_ => h_.1))))) (Kd.R_lt (by (with_reducible repeat (first | apply Kd.R_alloc | apply Kd.R_drewN | apply Kd.R_drew)); exact (Kd.R_mono (Kd.R_far (p := ⟨gb192, 2, none⟩) (Kd.R_far (p := ⟨gb192, 1, none⟩) (Kd.R_far (p := ⟨gb192, 0, none⟩) (Kd.R_types HO191.out BK192.out (by decide)) (fun _ hk => hk.2) (.string t187)) (fun _ hk => hk.2) (.string t188)) (fun _ hk => hk.2) (.slice Ao32 t189.length co32)) (fun _ h_ => h_.1))))) (below_size (by repeat (first | (with_reducible first | exact HB.out | apply below_alloc | apply pw_below_drewN | apply below_drew1 | refine below_set ?_ GE173.out | refine below_set ?_ GE186.out | refine below_set ?_ GE192.out) | exact HB.out)))); have n4_ := Aside0.mk (blk_below (g := gb173) (o := .cells #[.string a0_0, .string a0_1, .slice A0_2 l0_2.length c0_2] 24 (0, 0)) (by (with_reducible repeat (first | refine blk_drewN ?_ _ | refine blk_drew ?_ | refine blk_alloc ?_ _)); refine blk_far ?_ NB173_192.out _; (with_reducible repeat (first | refine blk_drewN ?_ _ | refine blk_drew ?_ | refine blk_alloc ?_ _)); refine blk_far ?_ NB173_192.out _; (with_reducible repeat (first | refine blk_drewN ?_ _ | refine blk_drew ?_ | refine blk_alloc ?_ _)); refine blk_far ?_ NB173_192.out _; (with_reducible repeat (first | refine blk_drewN ?_ _ | refine blk_drew ?_ | refine blk_alloc ?_ _)); exact BK173.out) hb); have n5_ := Aside0.mk (blk_below (g := gb186) (o := .cells #[.string t180, .string t181, .slice Ao25 t182.length co25] 28 (0, 0)) (by (with_reducible repeat (first | refine blk_drewN ?_ _ | refine blk_drew ?_ | refine blk_alloc ?_ _)); refine blk_far ?_ NB186_192.out _; (with_reducible repeat (first | refine blk_drewN ?_ _ | refine blk_drew ?_ | refine blk_alloc ?_ _)); refine blk_far ?_ NB186_192.out _; (with_reducible repeat (first | refine blk_drewN ?_ _ | refine blk_drew ?_ | refine blk_alloc ?_ _)); refine blk_far ?_ NB186_192.out _; (with_reducible repeat (first | refine blk_drewN ?_ _ | refine blk_drew ?_ | refine blk_alloc ?_ _)); exact BK186.out) hb); have n6_ := Aside0.mk (blk_below (g := gb192) (o := .cells #[.string t187, .string t188, .slice Ao32 t189.length co32] 28 (0, 0)) (by (with_reducible repeat (first | refine blk_drewN ?_ _ | refine blk_drew ?_ | refine blk_alloc ?_ _)); refine blk_put (cs := #[.string t187, .string t188, .slice none 0 0]) ?_ 2 _ rfl; (with_reducible repeat (first | refine blk_drewN ?_ _ | refine blk_drew ?_ | refine blk_alloc ?_ _)); refine blk_put (cs := #[.string t187, .string (⟨#[]⟩ : ByteArray), .slice none 0 0]) ?_ 1 _ rfl; (with_reducible repeat (first | refine blk_drewN ?_ _ | refine blk_drew ?_ | refine blk_alloc ?_ _)); refine blk_put (cs := #[.string (⟨#[]⟩ : ByteArray), .string (⟨#[]⟩ : ByteArray), .slice none 0 0]) ?_ 0 _ rfl; (with_reducible repeat (first | refine blk_drewN ?_ _ | refine blk_drew ?_ | refine blk_alloc ?_ _)); exact BK192.out) hb); have n7_ := Aside0.mk (below_step (by repeat (first | (with_reducible first | exact HB.out | apply below_alloc | apply pw_below_drewN | apply below_drew1 | refine below_set ?_ GE173.out | refine below_set ?_ GE186.out | refine below_set ?_ GE192.out) | exact HB.out)) hb); clear HO179; clear HO184; clear HO191; clear BK173; clear BK186; clear BK192; clear HB; have HO179 := n0_; have HO184 := n1_; have HO191 := n2_; have HO197 := n3_; have BK173 := n4_; have BK186 := n5_; have BK192 := n6_; have HB := n7_; clear n0_ n1_ n2_ n3_ n4_ n5_ n6_ n7_; (try clear hb); (try clear hb2); (try clear hk); (try clear hi); (try clear ho0)) | ((with_reducible refine gate_dst (N := 9) rfl ?_); refine box_event ?hg (N := 9) ?hd (cs := #[.string (⟨#[]⟩ : ByteArray), .string (⟨#[]⟩ : ByteArray), .slice none 0 0]) (t := 28) ?hr ?_; (case hd => rfl); (case hg => rfl); (case hr => first | (go_simp; done) | (go_simp; rfl)); intro gb199 hg w34 hbox hb; have n0_ := Aside0.mk (Kd.R_below (by (with_reducible repeat (first | apply Kd.R_alloc | apply Kd.R_drewN | apply Kd.R_drew)); exact HO179.out) hb); have n1_ := Aside0.mk (Kd.R_below (by (with_reducible repeat (first | apply Kd.R_alloc | apply Kd.R_drewN | apply Kd.R_drew)); exact HO184.out) hb); have n2_ := Aside0.mk (Kd.R_below (by (with_reducible repeat (first | apply Kd.R_alloc | apply Kd.R_drewN | apply Kd.R_drew)); exact HO191.out) hb); have n3_ := Aside0.mk (Kd.R_below (by (with_reducible repeat (first | apply Kd.R_alloc | apply Kd.R_drewN | apply Kd.R_drew)); exact HO197.out) hb); have n4_ := Aside0.mk (blk_below (g := gb173) (o := .cells #[.string a0_0, .string a0_1, .slice A0_2 l0_2.length c0_2] 24 (0, 0)) (by (with_reducible repeat (first | refine blk_drewN ?_ _ | refine blk_drew ?_ | refine blk_alloc ?_ _)); exact BK173.out) hb); have n5_ := Aside0.mk (blk_below (g := gb186) (o := .cells #[.string t180, .string t181, .slice Ao25 t182.length co25] 28 (0, 0)) (by (with_reducible repeat (first | refine blk_drewN ?_ _ | refine blk_drew ?_ | refine blk_alloc ?_ _)); exact BK186.out) hb); have n6_ := Aside0.mk (blk_below (g := gb192) (o := .cells #[.string t187, .string t188, .slice Ao32 t189.length co32] 28 (0, 0)) (by (with_reducible repeat (first | refine blk_drewN ?_ _ | refine blk_drew ?_ | refine blk_alloc ?_ _)); exact BK192.out) hb); have n7_ := Aside0.mk (below_step (by repeat (first | (with_reducible first | exact HB.out | apply below_alloc | apply pw_below_drewN | apply below_drew1 | refine below_set ?_ GE173.out | refine below_set ?_ GE186.out | refine below_set ?_ GE192.out) | exact HB.out)) hb); have n8_ := Aside0.mk (hbox); have n9_ := Aside0.mk ((by rw [hg]; exact (below_size (by repeat (first | (with_reducible first | exact HB.out | apply below_alloc | apply pw_below_drewN | apply below_drew1 | refine below_set ?_ GE173.out | refine below_set ?_ GE186.out | refine below_set ?_ GE192.out) | exact HB.out))) : w.heap.size ≤ gb199)); have n10_ := Aside0.mk ((by rw [hg]; exact (below_size (by repeat (first | (with_reducible first | exact HB.out | apply below_alloc | apply pw_below_drewN | apply below_drew1 | refine below_set ?_ GE173.out | refine below_set ?_ GE186.out | refine below_set ?_ GE192.out) | exact HB.out))) : w.heap.size ≤ gb199)); have n11_ := Aside0.mk ((by rw [hg]; exact Nat.ne_of_lt (blk_lt (g := gb173) (o := .cells #[.string a0_0, .string a0_1, .slice A0_2 l0_2.length c0_2] 24 (0, 0)) (by (with_reducible repeat (first | refine blk_drewN ?_ _ | refine blk_drew ?_ | refine blk_alloc ?_ _)); exact BK173.out)) : gb173 ≠ gb199)); have n12_ := Aside0.mk ((by rw [hg]; exact Nat.ne_of_gt (blk_lt (g := gb173) (o := .cells #[.string a0_0, .string a0_1, .slice A0_2 l0_2.length c0_2] 24 (0, 0)) (by (with_reducible repeat (first | refine blk_drewN ?_ _ | refine blk_drew ?_ | refine blk_alloc ?_ _)); exact BK173.out)) : gb199 ≠ gb173)); have n13_ := Aside0.mk ((by rw [hg]; exact Nat.ne_of_lt (blk_lt (g := gb186) (o := .cells #[.string t180, .string t181, .slice Ao25 t182.length co25] 28 (0, 0)) (by (with_reducible repeat (first | refine blk_drewN ?_ _ | refine blk_drew ?_ | refine blk_alloc ?_ _)); exact BK186.out)) : gb186 ≠ gb199)); have n14_ := Aside0.mk ((by rw [hg]; exact Nat.ne_of_gt (blk_lt (g := gb186) (o := .cells #[.string t180, .string t181, .slice Ao25 t182.length co25] 28 (0, 0)) (by (with_reducible repeat (first | refine blk_drewN ?_ _ | refine blk_drew ?_ | refine blk_alloc ?_ _)); exact BK186.out)) : gb199 ≠ gb186)); have n15_ := Aside0.mk ((by rw [hg]; exact Nat.ne_of_lt (blk_lt (g := gb192) (o := .cells #[.string t187, .string t188, .slice Ao32 t189.length co32] 28 (0, 0)) (by (with_reducible repeat (first | refine blk_drewN ?_ _ | refine blk_drew ?_ | refine blk_alloc ?_ _)); exact BK192.out)) : gb192 ≠ gb199)); have n16_ := Aside0.mk ((by rw [hg]; exact Nat.ne_of_gt (blk_lt (g := gb192) (o := .cells #[.string t187, .string t188, .slice Ao32 t189.length co32] 28 (0, 0)) (by (with_reducible repeat (first | refine blk_drewN ?_ _ | refine blk_drew ?_ | refine blk_alloc ?_ _)); exact BK192.out)) : gb199 ≠ gb192)); clear HO179; clear HO184; clear HO191; clear HO197; clear BK173; clear BK186; clear BK192; clear HB; have HO179 := n0_; have HO184 := n1_; have HO191 := n2_; have HO197 := n3_; have BK173 := n4_; have BK186 := n5_; have BK192 := n6_; have HB := n7_; have BK199 := n8_; have GW199 := n9_; have GE199 := n10_; have NB173_199 := n11_; have NB199_173 := n12_; have NB186_199 := n13_; have NB199_186 := n14_; have NB192_199 := n15_; have NB199_192 := n16_; clear n0_ n1_ n2_ n3_ n4_ n5_ n6_ n7_ n8_ n9_ n10_ n11_ n12_ n13_ n14_ n15_ n16_; clear hb hbox hg; have hnb35 := NB199_173.out; have hnc35 := NB173_199.out; have hnb36 := NB199_186.out; have hnc36 := NB186_199.out; have hnb37 := NB199_192.out; have hnc37 := NB192_199.out; have hcz38_0 : w34.cell? ⟨gb199, 0, none⟩ = some (.string (⟨#[]⟩ : ByteArray)) := (blk_cell BK199.out 0).trans rfl; have hcz38_1 : w34.cell? ⟨gb199, 1, none⟩ = some (.string (⟨#[]⟩ : ByteArray)) := (blk_cell BK199.out 1).trans rfl; have hcz38_2 : w34.cell? ⟨gb199, 2, none⟩ = some (.slice none 0 0) := (blk_cell BK199.out 2).trans rfl; have hfz38_0 := blk_frozen BK199.out 0; have hfz38_1 := blk_frozen BK199.out 1; have hfz38_2 := blk_frozen BK199.out 2; obtain ⟨Ao39, co39, eo39⟩ := Kd.R_slice HO197.out; subst eo39))
      (try simp only [Act.put, List.setIfInBounds_toArray, List.set_cons_zero, List.set_cons_succ])
      go_cut [47] (fun v47 wc => ∃ (kq : Nat) (x47_13 : Bool), v47 = .bool x47_13 ∧ Aside0 (laws_FnExactAddWord.j0 kq a1 t185 t198 x47_13 a0_0 a0_1 l0_2 t180 t181 t182 t187 t188 t189 t193 t194 t195 = some r) ∧ Aside0 (kq ≤ k) ∧ Aside0 (Kd.R Kd.string 9 wc w.heap.size (fun k_ => some k_ ≠ ((.slice Ao32 t189.length co32) : Value).ownBlock ∧ some k_ ≠ ((.slice Ao39 t195.length co39) : Value).ownBlock) (.slice Ao25 t182.length co25) t182) ∧ Aside0 (Kd.R Kd.string 9 wc w.heap.size (fun k_ => some k_ ≠ ((.slice Ao25 t182.length co25) : Value).ownBlock ∧ some k_ ≠ ((.slice Ao39 t195.length co39) : Value).ownBlock) (.slice Ao32 t189.length co32) t189) ∧ Aside0 (Kd.R Kd.string 9 wc w.heap.size (fun k_ => some k_ ≠ ((.slice Ao25 t182.length co25) : Value).ownBlock ∧ some k_ ≠ ((.slice Ao32 t189.length co32) : Value).ownBlock) (.slice Ao39 t195.length co39) t195) ∧ Aside0 (wc.heap[gb173]? = some (.cells #[.string a0_0, .string a0_1, (.slice A0_2 l0_2.length c0_2)] 24 (0, 0))) ∧ Aside0 (wc.heap[gb186]? = some (.cells #[.string t180, .string t181, (.slice Ao25 t182.length co25)] 28 (0, 0))) ∧ Aside0 (wc.heap[gb192]? = some (.cells #[.string t187, .string t188, (.slice Ao32 t189.length co32)] 28 (0, 0))) ∧ Aside0 (wc.heap[gb199]? = some (.cells #[.string t193, .string t194, (.slice Ao39 t195.length co39)] 28 (0, 0))) ∧ Aside0 (Below w.heap.size w wc))
      case first =>
        have H := HC14.out
        clear HC14
        replace H := Option.bind_eq_some_iff.mp H
        obtain ⟨t200, A400, H⟩ := H
        replace H : (if t200 = true then (laws_FnExactAddWord.j0 k a1 t185 t198 (t198 != t185) a0_0 a0_1 l0_2 t180 t181 t182 t187 t188 t189 t193 t194 t195) else (laws_FnExactAddWord.j0 k a1 t185 t198 true a0_0 a0_1 l0_2 t180 t181 t182 t187 t188 t189 t193 t194 t195)) = some r := H
        have A40 := Aside0.mk A400
        clear A400
        by_cases c41 : t200 = true
        · subst c41
          have H1 : (laws_FnExactAddWord.j0 k a1 t185 t198 (t198 != t185) a0_0 a0_1 l0_2 t180 t181 t182 t187 t188 t189 t193 t194 t195) = some r := by rw [if_pos rfl] at H; exact H
          clear H
          have H := H1
          clear H1
          have H' := Aside0.mk H
          clear H
          have hnb42 := NB199_173.out
          have hnc42 := NB173_199.out
          have hnb43 := NB199_186.out
          have hnc43 := NB186_199.out
          have hnb44 := NB199_192.out
          have hnc44 := NB192_199.out
          have hcz45_0 : w34.cell? ⟨gb199, 0, none⟩ = some (.string (⟨#[]⟩ : ByteArray)) := (blk_cell BK199.out 0).trans rfl
          have hcz45_1 : w34.cell? ⟨gb199, 1, none⟩ = some (.string (⟨#[]⟩ : ByteArray)) := (blk_cell BK199.out 1).trans rfl
          have hcz45_2 : w34.cell? ⟨gb199, 2, none⟩ = some (.slice none 0 0) := (blk_cell BK199.out 2).trans rfl
          have hfz45_0 := blk_frozen BK199.out 0
          have hfz45_1 := blk_frozen BK199.out 1
          have hfz45_2 := blk_frozen BK199.out 2
          have hnb46 := NB186_173.out
          have hnc46 := NB173_186.out
          have hnb47 := NB186_192.out
          have hnc47 := NB192_186.out
          have hcz48_0 : w34.cell? ⟨gb186, 0, none⟩ = some (.string t180) := (blk_cell BK186.out 0).trans rfl
          have hcz48_1 : w34.cell? ⟨gb186, 1, none⟩ = some (.string t181) := (blk_cell BK186.out 1).trans rfl
          have hcz48_2 : w34.cell? ⟨gb186, 2, none⟩ = some (.slice Ao25 t182.length co25) := (blk_cell BK186.out 2).trans rfl
          have hfz48_0 := blk_frozen BK186.out 0
          have hfz48_1 := blk_frozen BK186.out 1
          have hfz48_2 := blk_frozen BK186.out 2
          go_wp2_with (first | ((with_reducible refine gate_callee (f := 14) rfl ?_); refine goesL_ (some 41) rfl rfl Tryd.func14 (by kernel_rfl) rfl #[.agg #[.string t193, .string t194, .slice Ao39 t195.length co39], .agg #[.string t180, .string t181, .slice Ao25 t182.length co25]] rfl (by (try simp only [List.map_toArray, List.map_cons, List.map_nil]); first | done | rfl | (simp only [List.length_drop, List.length_take]; rfl)) ?_; (with_reducible refine (laws_eqScheme.calls k t193 t194 _ _ t195 t180 t181 _ _ t182 true _ ?side1 ?side2 ?side3 ?side4 A40.out).mono ?_); (case side1 => refine (Kd.R_reads' (e := 9) (base := w.heap.size) (ok := fun k_ => (((True ∧ some k_ ≠ (.slice Ao20 t177.length co20 : Value).ownBlock) ∧ some k_ ≠ (.slice Ao25 t182.length co25 : Value).ownBlock) ∧ some k_ ≠ (.slice Ao32 t189.length co32 : Value).ownBlock)) (n := t195.length) (c := co39) ?_).2.2; exact (by (with_reducible repeat (first | apply Kd.R_alloc | apply Kd.R_drewN | apply Kd.R_drew)); exact (Kd.R_mono (Kd.R_far (p := ⟨gb199, 2, none⟩) (Kd.R_far (p := ⟨gb199, 1, none⟩) (Kd.R_far (p := ⟨gb199, 0, none⟩) (Kd.R_types HO197.out BK199.out (by decide)) (fun _ hk => hk.2) (.string t193)) (fun _ hk => hk.2) (.string t194)) (fun _ hk => hk.2) (.slice Ao39 t195.length co39)) (fun _ h_ => h_.1)))); (case side2 => exact (Kd.R_reads' HO197.out).2.1); (case side3 => refine (Kd.R_reads' (e := 9) (base := w.heap.size) (ok := fun k_ => (((True ∧ some k_ ≠ (.slice Ao20 t177.length co20 : Value).ownBlock) ∧ some k_ ≠ (.slice Ao32 t189.length co32 : Value).ownBlock) ∧ some k_ ≠ (.slice Ao39 t195.length co39 : Value).ownBlock)) (n := t182.length) (c := co25) ?_).2.2; exact (by (with_reducible repeat (first | apply Kd.R_alloc | apply Kd.R_drewN | apply Kd.R_drew)); exact (Kd.R_mono (Kd.R_far (p := ⟨gb199, 2, none⟩) (Kd.R_far (p := ⟨gb199, 1, none⟩) (Kd.R_far (p := ⟨gb199, 0, none⟩) (Kd.R_types HO184.out BK199.out (by decide)) (fun _ hk => hk.2) (.string t193)) (fun _ hk => hk.2) (.string t194)) (fun _ hk => hk.2) (.slice Ao39 t195.length co39)) (fun _ h_ => h_.1)))); (case side4 => exact (Kd.R_reads' HO184.out).2.1); rintro e w49 ⟨rfl, hb⟩; refine ⟨_, rfl, ?_⟩; have n0_ := Aside0.mk (Kd.R_below (by (with_reducible repeat (first | apply Kd.R_alloc | apply Kd.R_drewN | apply Kd.R_drew)); exact (Kd.R_mono (Kd.R_far (p := ⟨gb199, 2, none⟩) (Kd.R_far (p := ⟨gb199, 1, none⟩) (Kd.R_far (p := ⟨gb199, 0, none⟩) (Kd.R_types HO179.out BK199.out (by decide)) (fun _ hk => hk.2) (.string t193)) (fun _ hk => hk.2) (.string t194)) (fun _ hk => hk.2) (.slice Ao39 t195.length co39)) (fun _ h_ => h_.1))) hb); have n1_ := Aside0.mk (Kd.R_below (by (with_reducible repeat (first | apply Kd.R_alloc | apply Kd.R_drewN | apply Kd.R_drew)); exact (Kd.R_mono (Kd.R_far (p := ⟨gb199, 2, none⟩) (Kd.R_far (p := ⟨gb199, 1, none⟩) (Kd.R_far (p := ⟨gb199, 0, none⟩) (Kd.R_types HO184.out BK199.out (by decide)) (fun _ hk => hk.2) (.string t193)) (fun _ hk => hk.2) (.string t194)) (fun _ hk => hk.2) (.slice Ao39 t195.length co39)) (fun _ h_ => h_.1))) hb); have n2_ := Aside0.mk (Kd.R_below (by (with_reducible repeat (first | apply Kd.R_alloc | apply Kd.R_drewN | apply Kd.R_drew)); exact (Kd.R_mono (Kd.R_far (p := ⟨gb199, 2, none⟩) (Kd.R_far (p := ⟨gb199, 1, none⟩) (Kd.R_far (p := ⟨gb199, 0, none⟩) (Kd.R_types HO191.out BK199.out (by decide)) (fun _ hk => hk.2) (.string t193)) (fun _ hk => hk.2) (.string t194)) (fun _ hk => hk.2) (.slice Ao39 t195.length co39)) (fun _ h_ => h_.1))) hb); have n3_ := Aside0.mk (Kd.R_below (by (with_reducible repeat (first | apply Kd.R_alloc | apply Kd.R_drewN | apply Kd.R_drew)); exact (Kd.R_mono (Kd.R_far (p := ⟨gb199, 2, none⟩) (Kd.R_far (p := ⟨gb199, 1, none⟩) (Kd.R_far (p := ⟨gb199, 0, none⟩) (Kd.R_types HO197.out BK199.out (by decide)) (fun _ hk => hk.2) (.string t193)) (fun _ hk => hk.2) (.string t194)) (fun _ hk => hk.2) (.slice Ao39 t195.length co39)) (fun _ h_ => h_.1))) hb); have n4_ := Aside0.mk (blk_below (g := gb173) (o := .cells #[.string a0_0, .string a0_1, .slice A0_2 l0_2.length c0_2] 24 (0, 0)) (by (with_reducible repeat (first | refine blk_drewN ?_ _ | refine blk_drew ?_ | refine blk_alloc ?_ _)); refine blk_far ?_ NB173_199.out _; (with_reducible repeat (first | refine blk_drewN ?_ _ | refine blk_drew ?_ | refine blk_alloc ?_ _)); refine blk_far ?_ NB173_199.out _; (with_reducible repeat (first | refine blk_drewN ?_ _ | refine blk_drew ?_ | refine blk_alloc ?_ _)); refine blk_far ?_ NB173_199.out _; (with_reducible repeat (first | refine blk_drewN ?_ _ | refine blk_drew ?_ | refine blk_alloc ?_ _)); exact BK173.out) hb); have n5_ := Aside0.mk (blk_below (g := gb186) (o := .cells #[.string t180, .string t181, .slice Ao25 t182.length co25] 28 (0, 0)) (by (with_reducible repeat (first | refine blk_drewN ?_ _ | refine blk_drew ?_ | refine blk_alloc ?_ _)); refine blk_far ?_ NB186_199.out _; (with_reducible repeat (first | refine blk_drewN ?_ _ | refine blk_drew ?_ | refine blk_alloc ?_ _)); refine blk_far ?_ NB186_199.out _; (with_reducible repeat (first | refine blk_drewN ?_ _ | refine blk_drew ?_ | refine blk_alloc ?_ _)); refine blk_far ?_ NB186_199.out _; (with_reducible repeat (first | refine blk_drewN ?_ _ | refine blk_drew ?_ | refine blk_alloc ?_ _)); exact BK186.out) hb); have n6_ := Aside0.mk (blk_below (g := gb192) (o := .cells #[.string t187, .string t188, .slice Ao32 t189.length co32] 28 (0, 0)) (by (with_reducible repeat (first | refine blk_drewN ?_ _ | refine blk_drew ?_ | refine blk_alloc ?_ _)); refine blk_far ?_ NB192_199.out _; (with_reducible repeat (first | refine blk_drewN ?_ _ | refine blk_drew ?_ | refine blk_alloc ?_ _)); refine blk_far ?_ NB192_199.out _; (with_reducible repeat (first | refine blk_drewN ?_ _ | refine blk_drew ?_ | refine blk_alloc ?_ _)); refine blk_far ?_ NB192_199.out _; (with_reducible repeat (first | refine blk_drewN ?_ _ | refine blk_drew ?_ | refine blk_alloc ?_ _)); exact BK192.out) hb); have n7_ := Aside0.mk (blk_below (g := gb199) (o := .cells #[.string t193, .string t194, .slice Ao39 t195.length co39] 28 (0, 0)) (by (with_reducible repeat (first | refine blk_drewN ?_ _ | refine blk_drew ?_ | refine blk_alloc ?_ _)); refine blk_put (cs := #[.string t193, .string t194, .slice none 0 0]) ?_ 2 _ rfl; (with_reducible repeat (first | refine blk_drewN ?_ _ | refine blk_drew ?_ | refine blk_alloc ?_ _)); refine blk_put (cs := #[.string t193, .string (⟨#[]⟩ : ByteArray), .slice none 0 0]) ?_ 1 _ rfl; (with_reducible repeat (first | refine blk_drewN ?_ _ | refine blk_drew ?_ | refine blk_alloc ?_ _)); refine blk_put (cs := #[.string (⟨#[]⟩ : ByteArray), .string (⟨#[]⟩ : ByteArray), .slice none 0 0]) ?_ 0 _ rfl; (with_reducible repeat (first | refine blk_drewN ?_ _ | refine blk_drew ?_ | refine blk_alloc ?_ _)); exact BK199.out) hb); have n8_ := Aside0.mk (below_step (by repeat (first | (with_reducible first | exact HB.out | apply below_alloc | apply pw_below_drewN | apply below_drew1 | refine below_set ?_ GE173.out | refine below_set ?_ GE186.out | refine below_set ?_ GE192.out | refine below_set ?_ GE199.out) | exact HB.out)) hb); clear HO179; clear HO184; clear HO191; clear HO197; clear BK173; clear BK186; clear BK192; clear BK199; clear HB; have HO179 := n0_; have HO184 := n1_; have HO191 := n2_; have HO197 := n3_; have BK173 := n4_; have BK186 := n5_; have BK192 := n6_; have BK199 := n7_; have HB := n8_; clear n0_ n1_ n2_ n3_ n4_ n5_ n6_ n7_ n8_; (try clear hb); (try clear hb2); (try clear hk); (try clear hi)))
          go_meet
          case rel => exact ⟨_, ((t198 != t185)), (by first | rfl | (simp; done) | (simp [*]; done)), H', ⟨by first | omega | exact Nat.le_refl _⟩, ⟨by (with_reducible repeat (first | apply Kd.R_alloc | apply Kd.R_drewN | apply Kd.R_drew)); exact Kd.R_mono HO184.out (fun _ hk => ⟨hk.1.2, hk.2⟩)⟩, ⟨by (with_reducible repeat (first | apply Kd.R_alloc | apply Kd.R_drewN | apply Kd.R_drew)); exact Kd.R_mono HO191.out (fun _ hk => ⟨hk.1.2, hk.2⟩)⟩, ⟨by (with_reducible repeat (first | apply Kd.R_alloc | apply Kd.R_drewN | apply Kd.R_drew)); exact Kd.R_mono HO197.out (fun _ hk => ⟨hk.1.2, hk.2⟩)⟩, ⟨by (with_reducible repeat (first | refine blk_drewN ?_ _ | refine blk_drew ?_ | refine blk_alloc ?_ _)); exact BK173.out⟩, ⟨by (with_reducible repeat (first | refine blk_drewN ?_ _ | refine blk_drew ?_ | refine blk_alloc ?_ _)); exact BK186.out⟩, ⟨by (with_reducible repeat (first | refine blk_drewN ?_ _ | refine blk_drew ?_ | refine blk_alloc ?_ _)); exact BK192.out⟩, ⟨by (with_reducible repeat (first | refine blk_drewN ?_ _ | refine blk_drew ?_ | refine blk_alloc ?_ _)); exact BK199.out⟩, ⟨by repeat (first | (with_reducible first | exact HB.out | apply below_alloc | apply pw_below_drewN | apply below_drew1 | refine below_set ?_ GE173.out | refine below_set ?_ GE186.out | refine below_set ?_ GE192.out | refine below_set ?_ GE199.out) | exact HB.out)⟩⟩
        · replace c41 := Bool.eq_false_iff.mpr c41
          subst c41
          have H1 : (laws_FnExactAddWord.j0 k a1 t185 t198 true a0_0 a0_1 l0_2 t180 t181 t182 t187 t188 t189 t193 t194 t195) = some r := by rw [if_neg (show ¬ (false = true) by decide)] at H; exact H
          clear H
          have H := H1
          clear H1
          have H' := Aside0.mk H
          clear H
          have hnb50 := NB199_173.out
          have hnc50 := NB173_199.out
          have hnb51 := NB199_186.out
          have hnc51 := NB186_199.out
          have hnb52 := NB199_192.out
          have hnc52 := NB192_199.out
          have hcz53_0 : w34.cell? ⟨gb199, 0, none⟩ = some (.string (⟨#[]⟩ : ByteArray)) := (blk_cell BK199.out 0).trans rfl
          have hcz53_1 : w34.cell? ⟨gb199, 1, none⟩ = some (.string (⟨#[]⟩ : ByteArray)) := (blk_cell BK199.out 1).trans rfl
          have hcz53_2 : w34.cell? ⟨gb199, 2, none⟩ = some (.slice none 0 0) := (blk_cell BK199.out 2).trans rfl
          have hfz53_0 := blk_frozen BK199.out 0
          have hfz53_1 := blk_frozen BK199.out 1
          have hfz53_2 := blk_frozen BK199.out 2
          have hnb54 := NB186_173.out
          have hnc54 := NB173_186.out
          have hnb55 := NB186_192.out
          have hnc55 := NB192_186.out
          have hcz56_0 : w34.cell? ⟨gb186, 0, none⟩ = some (.string t180) := (blk_cell BK186.out 0).trans rfl
          have hcz56_1 : w34.cell? ⟨gb186, 1, none⟩ = some (.string t181) := (blk_cell BK186.out 1).trans rfl
          have hcz56_2 : w34.cell? ⟨gb186, 2, none⟩ = some (.slice Ao25 t182.length co25) := (blk_cell BK186.out 2).trans rfl
          have hfz56_0 := blk_frozen BK186.out 0
          have hfz56_1 := blk_frozen BK186.out 1
          have hfz56_2 := blk_frozen BK186.out 2
          go_wp2_with (first | ((with_reducible refine gate_callee (f := 14) rfl ?_); refine goesL_ (some 41) rfl rfl Tryd.func14 (by kernel_rfl) rfl #[.agg #[.string t193, .string t194, .slice Ao39 t195.length co39], .agg #[.string t180, .string t181, .slice Ao25 t182.length co25]] rfl (by (try simp only [List.map_toArray, List.map_cons, List.map_nil]); first | done | rfl | (simp only [List.length_drop, List.length_take]; rfl)) ?_; (with_reducible refine (laws_eqScheme.calls k t193 t194 _ _ t195 t180 t181 _ _ t182 false _ ?side1 ?side2 ?side3 ?side4 A40.out).mono ?_); (case side1 => refine (Kd.R_reads' (e := 9) (base := w.heap.size) (ok := fun k_ => (((True ∧ some k_ ≠ (.slice Ao20 t177.length co20 : Value).ownBlock) ∧ some k_ ≠ (.slice Ao25 t182.length co25 : Value).ownBlock) ∧ some k_ ≠ (.slice Ao32 t189.length co32 : Value).ownBlock)) (n := t195.length) (c := co39) ?_).2.2; exact (by (with_reducible repeat (first | apply Kd.R_alloc | apply Kd.R_drewN | apply Kd.R_drew)); exact (Kd.R_mono (Kd.R_far (p := ⟨gb199, 2, none⟩) (Kd.R_far (p := ⟨gb199, 1, none⟩) (Kd.R_far (p := ⟨gb199, 0, none⟩) (Kd.R_types HO197.out BK199.out (by decide)) (fun _ hk => hk.2) (.string t193)) (fun _ hk => hk.2) (.string t194)) (fun _ hk => hk.2) (.slice Ao39 t195.length co39)) (fun _ h_ => h_.1)))); (case side2 => exact (Kd.R_reads' HO197.out).2.1); (case side3 => refine (Kd.R_reads' (e := 9) (base := w.heap.size) (ok := fun k_ => (((True ∧ some k_ ≠ (.slice Ao20 t177.length co20 : Value).ownBlock) ∧ some k_ ≠ (.slice Ao32 t189.length co32 : Value).ownBlock) ∧ some k_ ≠ (.slice Ao39 t195.length co39 : Value).ownBlock)) (n := t182.length) (c := co25) ?_).2.2; exact (by (with_reducible repeat (first | apply Kd.R_alloc | apply Kd.R_drewN | apply Kd.R_drew)); exact (Kd.R_mono (Kd.R_far (p := ⟨gb199, 2, none⟩) (Kd.R_far (p := ⟨gb199, 1, none⟩) (Kd.R_far (p := ⟨gb199, 0, none⟩) (Kd.R_types HO184.out BK199.out (by decide)) (fun _ hk => hk.2) (.string t193)) (fun _ hk => hk.2) (.string t194)) (fun _ hk => hk.2) (.slice Ao39 t195.length co39)) (fun _ h_ => h_.1)))); (case side4 => exact (Kd.R_reads' HO184.out).2.1); rintro e w57 ⟨rfl, hb⟩; refine ⟨_, rfl, ?_⟩; have n0_ := Aside0.mk (Kd.R_below (by (with_reducible repeat (first | apply Kd.R_alloc | apply Kd.R_drewN | apply Kd.R_drew)); exact (Kd.R_mono (Kd.R_far (p := ⟨gb199, 2, none⟩) (Kd.R_far (p := ⟨gb199, 1, none⟩) (Kd.R_far (p := ⟨gb199, 0, none⟩) (Kd.R_types HO179.out BK199.out (by decide)) (fun _ hk => hk.2) (.string t193)) (fun _ hk => hk.2) (.string t194)) (fun _ hk => hk.2) (.slice Ao39 t195.length co39)) (fun _ h_ => h_.1))) hb); have n1_ := Aside0.mk (Kd.R_below (by (with_reducible repeat (first | apply Kd.R_alloc | apply Kd.R_drewN | apply Kd.R_drew)); exact (Kd.R_mono (Kd.R_far (p := ⟨gb199, 2, none⟩) (Kd.R_far (p := ⟨gb199, 1, none⟩) (Kd.R_far (p := ⟨gb199, 0, none⟩) (Kd.R_types HO184.out BK199.out (by decide)) (fun _ hk => hk.2) (.string t193)) (fun _ hk => hk.2) (.string t194)) (fun _ hk => hk.2) (.slice Ao39 t195.length co39)) (fun _ h_ => h_.1))) hb); have n2_ := Aside0.mk (Kd.R_below (by (with_reducible repeat (first | apply Kd.R_alloc | apply Kd.R_drewN | apply Kd.R_drew)); exact (Kd.R_mono (Kd.R_far (p := ⟨gb199, 2, none⟩) (Kd.R_far (p := ⟨gb199, 1, none⟩) (Kd.R_far (p := ⟨gb199, 0, none⟩) (Kd.R_types HO191.out BK199.out (by decide)) (fun _ hk => hk.2) (.string t193)) (fun _ hk => hk.2) (.string t194)) (fun _ hk => hk.2) (.slice Ao39 t195.length co39)) (fun _ h_ => h_.1))) hb); have n3_ := Aside0.mk (Kd.R_below (by (with_reducible repeat (first | apply Kd.R_alloc | apply Kd.R_drewN | apply Kd.R_drew)); exact (Kd.R_mono (Kd.R_far (p := ⟨gb199, 2, none⟩) (Kd.R_far (p := ⟨gb199, 1, none⟩) (Kd.R_far (p := ⟨gb199, 0, none⟩) (Kd.R_types HO197.out BK199.out (by decide)) (fun _ hk => hk.2) (.string t193)) (fun _ hk => hk.2) (.string t194)) (fun _ hk => hk.2) (.slice Ao39 t195.length co39)) (fun _ h_ => h_.1))) hb); have n4_ := Aside0.mk (blk_below (g := gb173) (o := .cells #[.string a0_0, .string a0_1, .slice A0_2 l0_2.length c0_2] 24 (0, 0)) (by (with_reducible repeat (first | refine blk_drewN ?_ _ | refine blk_drew ?_ | refine blk_alloc ?_ _)); refine blk_far ?_ NB173_199.out _; (with_reducible repeat (first | refine blk_drewN ?_ _ | refine blk_drew ?_ | refine blk_alloc ?_ _)); refine blk_far ?_ NB173_199.out _; (with_reducible repeat (first | refine blk_drewN ?_ _ | refine blk_drew ?_ | refine blk_alloc ?_ _)); refine blk_far ?_ NB173_199.out _; (with_reducible repeat (first | refine blk_drewN ?_ _ | refine blk_drew ?_ | refine blk_alloc ?_ _)); exact BK173.out) hb); have n5_ := Aside0.mk (blk_below (g := gb186) (o := .cells #[.string t180, .string t181, .slice Ao25 t182.length co25] 28 (0, 0)) (by (with_reducible repeat (first | refine blk_drewN ?_ _ | refine blk_drew ?_ | refine blk_alloc ?_ _)); refine blk_far ?_ NB186_199.out _; (with_reducible repeat (first | refine blk_drewN ?_ _ | refine blk_drew ?_ | refine blk_alloc ?_ _)); refine blk_far ?_ NB186_199.out _; (with_reducible repeat (first | refine blk_drewN ?_ _ | refine blk_drew ?_ | refine blk_alloc ?_ _)); refine blk_far ?_ NB186_199.out _; (with_reducible repeat (first | refine blk_drewN ?_ _ | refine blk_drew ?_ | refine blk_alloc ?_ _)); exact BK186.out) hb); have n6_ := Aside0.mk (blk_below (g := gb192) (o := .cells #[.string t187, .string t188, .slice Ao32 t189.length co32] 28 (0, 0)) (by (with_reducible repeat (first | refine blk_drewN ?_ _ | refine blk_drew ?_ | refine blk_alloc ?_ _)); refine blk_far ?_ NB192_199.out _; (with_reducible repeat (first | refine blk_drewN ?_ _ | refine blk_drew ?_ | refine blk_alloc ?_ _)); refine blk_far ?_ NB192_199.out _; (with_reducible repeat (first | refine blk_drewN ?_ _ | refine blk_drew ?_ | refine blk_alloc ?_ _)); refine blk_far ?_ NB192_199.out _; (with_reducible repeat (first | refine blk_drewN ?_ _ | refine blk_drew ?_ | refine blk_alloc ?_ _)); exact BK192.out) hb); have n7_ := Aside0.mk (blk_below (g := gb199) (o := .cells #[.string t193, .string t194, .slice Ao39 t195.length co39] 28 (0, 0)) (by (with_reducible repeat (first | refine blk_drewN ?_ _ | refine blk_drew ?_ | refine blk_alloc ?_ _)); refine blk_put (cs := #[.string t193, .string t194, .slice none 0 0]) ?_ 2 _ rfl; (with_reducible repeat (first | refine blk_drewN ?_ _ | refine blk_drew ?_ | refine blk_alloc ?_ _)); refine blk_put (cs := #[.string t193, .string (⟨#[]⟩ : ByteArray), .slice none 0 0]) ?_ 1 _ rfl; (with_reducible repeat (first | refine blk_drewN ?_ _ | refine blk_drew ?_ | refine blk_alloc ?_ _)); refine blk_put (cs := #[.string (⟨#[]⟩ : ByteArray), .string (⟨#[]⟩ : ByteArray), .slice none 0 0]) ?_ 0 _ rfl; (with_reducible repeat (first | refine blk_drewN ?_ _ | refine blk_drew ?_ | refine blk_alloc ?_ _)); exact BK199.out) hb); have n8_ := Aside0.mk (below_step (by repeat (first | (with_reducible first | exact HB.out | apply below_alloc | apply pw_below_drewN | apply below_drew1 | refine below_set ?_ GE173.out | refine below_set ?_ GE186.out | refine below_set ?_ GE192.out | refine below_set ?_ GE199.out) | exact HB.out)) hb); clear HO179; clear HO184; clear HO191; clear HO197; clear BK173; clear BK186; clear BK192; clear BK199; clear HB; have HO179 := n0_; have HO184 := n1_; have HO191 := n2_; have HO197 := n3_; have BK173 := n4_; have BK186 := n5_; have BK192 := n6_; have BK199 := n7_; have HB := n8_; clear n0_ n1_ n2_ n3_ n4_ n5_ n6_ n7_ n8_; (try clear hb); (try clear hb2); (try clear hk); (try clear hi)))
          go_meet
          case rel => exact ⟨_, (true), (by first | rfl | (simp; done) | (simp [*]; done)), H', ⟨by first | omega | exact Nat.le_refl _⟩, ⟨by (with_reducible repeat (first | apply Kd.R_alloc | apply Kd.R_drewN | apply Kd.R_drew)); exact Kd.R_mono HO184.out (fun _ hk => ⟨hk.1.2, hk.2⟩)⟩, ⟨by (with_reducible repeat (first | apply Kd.R_alloc | apply Kd.R_drewN | apply Kd.R_drew)); exact Kd.R_mono HO191.out (fun _ hk => ⟨hk.1.2, hk.2⟩)⟩, ⟨by (with_reducible repeat (first | apply Kd.R_alloc | apply Kd.R_drewN | apply Kd.R_drew)); exact Kd.R_mono HO197.out (fun _ hk => ⟨hk.1.2, hk.2⟩)⟩, ⟨by (with_reducible repeat (first | refine blk_drewN ?_ _ | refine blk_drew ?_ | refine blk_alloc ?_ _)); exact BK173.out⟩, ⟨by (with_reducible repeat (first | refine blk_drewN ?_ _ | refine blk_drew ?_ | refine blk_alloc ?_ _)); exact BK186.out⟩, ⟨by (with_reducible repeat (first | refine blk_drewN ?_ _ | refine blk_drew ?_ | refine blk_alloc ?_ _)); exact BK192.out⟩, ⟨by (with_reducible repeat (first | refine blk_drewN ?_ _ | refine blk_drew ?_ | refine blk_alloc ?_ _)); exact BK199.out⟩, ⟨by repeat (first | (with_reducible first | exact HB.out | apply below_alloc | apply pw_below_drewN | apply below_drew1 | refine below_set ?_ GE173.out | refine below_set ?_ GE186.out | refine below_set ?_ GE192.out | refine below_set ?_ GE199.out) | exact HB.out)⟩⟩
      case rest =>
        clear HC14
        try clear c1
        try clear c2
        try clear p2
        try clear c3
        try clear c3b0
        try clear c3b1
        try clear c4
        try clear c5
        try clear c6
        try clear c6b0
        try clear c8
        try clear c10
        try clear c12
        try clear c14
        try clear c23
        try clear c25
        try clear c26
        try clear c29
        try clear c30
        try clear c35
        try clear c36
        try clear c37
        try clear c41
        try clear c42
        try clear c43
        try clear c44
        try clear c46
        try clear c47
        try clear c50
        try clear c51
        try clear c52
        try clear c54
        try clear c55
        try clear hcz16_0
        try clear hcz16_1
        try clear hcz16_2
        try clear hcz18_0
        try clear hcz18_1
        try clear hcz18_2
        try clear hcz24_0
        try clear hcz24_1
        try clear hcz24_2
        try clear hcz26_0
        try clear hcz26_1
        try clear hcz26_2
        try clear hcz31_0
        try clear hcz31_1
        try clear hcz31_2
        try clear hcz38_0
        try clear hcz38_1
        try clear hcz38_2
        try clear hcz45_0
        try clear hcz45_1
        try clear hcz45_2
        try clear hcz48_0
        try clear hcz48_1
        try clear hcz48_2
        try clear hcz53_0
        try clear hcz53_1
        try clear hcz53_2
        try clear hcz56_0
        try clear hcz56_1
        try clear hcz56_2
        try clear hcz8_0
        try clear hcz8_1
        try clear hcz8_2
        try clear hfz16_0
        try clear hfz16_1
        try clear hfz16_2
        try clear hfz18_0
        try clear hfz18_1
        try clear hfz18_2
        try clear hfz24_0
        try clear hfz24_1
        try clear hfz24_2
        try clear hfz26_0
        try clear hfz26_1
        try clear hfz26_2
        try clear hfz31_0
        try clear hfz31_1
        try clear hfz31_2
        try clear hfz38_0
        try clear hfz38_1
        try clear hfz38_2
        try clear hfz45_0
        try clear hfz45_1
        try clear hfz45_2
        try clear hfz48_0
        try clear hfz48_1
        try clear hfz48_2
        try clear hfz53_0
        try clear hfz53_1
        try clear hfz53_2
        try clear hfz56_0
        try clear hfz56_1
        try clear hfz56_2
        try clear hfz8_0
        try clear hfz8_1
        try clear hfz8_2
        obtain ⟨kq, x47_13, rfl, HA, HJ13, HO_187002, HO_193002, HO_200002, BK173, BK186, BK192, BK199, HB⟩ := hcut
        cases kq with
        | zero => exact absurd HA.out (by simp [laws_FnExactAddWord.j0])
        | succ kj13 =>
          have H := HA.out
          clear HA
          simp only [laws_FnExactAddWord.j0] at H
          by_cases c58 : x47_13 = true
          · subst c58
            have H1 : (some false) = some r := by rw [if_pos rfl] at H; exact H
            clear H
            have H := H1
            clear H1
            obtain rfl := Option.some.inj H
            go_wp2
            go_ret
            exact ⟨by first | rfl | (simp [errW_none, errW_some] <;> rfl) | (simp [*, errW_none, errW_some] <;> rfl), by repeat (first | (with_reducible first | exact HB.out | apply below_alloc | apply pw_below_drewN | apply below_drew1 | refine below_set ?_ GE173.out | refine below_set ?_ GE186.out | refine below_set ?_ GE192.out | refine below_set ?_ GE199.out) | exact HB.out)⟩
          · replace c58 := Bool.eq_false_iff.mpr c58
            subst c58
            have H1 : ((laws_toScheme.f kj13 a0_0 a0_1 l0_2).bind fun bt201 => ((laws_eqScheme.f kj13 t187 t188 t189 bt201.1 bt201.2.1 bt201.2.2).bind fun t206 => (if t206 = true then ((laws_markScheme.f kj13 t187 t188 t189 1).bind fun bt207 => (if bt207.1 < 0 then (laws_FnExactAddWord.j1 kj13 a1 t185 true a0_0 a0_1 l0_2 t180 t181 t182 t193 t194 t195) else ((laws_eqScheme.f kj13 t193 t194 t195 t180 t181 t182).bind fun t209 => (if t209 = true then (laws_FnExactAddWord.j1 kj13 a1 t185 (t198 != t185) a0_0 a0_1 l0_2 t180 t181 t182 t193 t194 t195) else (laws_FnExactAddWord.j1 kj13 a1 t185 true a0_0 a0_1 l0_2 t180 t181 t182 t193 t194 t195))))) else (some false)))) = some r := by rw [if_neg (show ¬ (false = true) by decide)] at H; exact H
            clear H
            have H := H1
            clear H1
            replace H := Option.bind_eq_some_iff.mp H
            obtain ⟨⟨t201, t202, t203⟩, A590, H⟩ := H
            replace H : ((laws_eqScheme.f kj13 t187 t188 t189 t201 t202 t203).bind fun t206 => (if t206 = true then ((laws_markScheme.f kj13 t187 t188 t189 1).bind fun bt207 => (if bt207.1 < 0 then (laws_FnExactAddWord.j1 kj13 a1 t185 true a0_0 a0_1 l0_2 t180 t181 t182 t193 t194 t195) else ((laws_eqScheme.f kj13 t193 t194 t195 t180 t181 t182).bind fun t209 => (if t209 = true then (laws_FnExactAddWord.j1 kj13 a1 t185 (t198 != t185) a0_0 a0_1 l0_2 t180 t181 t182 t193 t194 t195) else (laws_FnExactAddWord.j1 kj13 a1 t185 true a0_0 a0_1 l0_2 t180 t181 t182 t193 t194 t195))))) else (some false))) = some r := H
            have A59 := Aside0.mk A590
            clear A590
            replace H := Option.bind_eq_some_iff.mp H
            obtain ⟨t206, A600, H⟩ := H
            replace H : (if t206 = true then ((laws_markScheme.f kj13 t187 t188 t189 1).bind fun bt207 => (if bt207.1 < 0 then (laws_FnExactAddWord.j1 kj13 a1 t185 true a0_0 a0_1 l0_2 t180 t181 t182 t193 t194 t195) else ((laws_eqScheme.f kj13 t193 t194 t195 t180 t181 t182).bind fun t209 => (if t209 = true then (laws_FnExactAddWord.j1 kj13 a1 t185 (t198 != t185) a0_0 a0_1 l0_2 t180 t181 t182 t193 t194 t195) else (laws_FnExactAddWord.j1 kj13 a1 t185 true a0_0 a0_1 l0_2 t180 t181 t182 t193 t194 t195))))) else (some false)) = some r := H
            have A60 := Aside0.mk A600
            clear A600
            by_cases c61 : t206 = true
            · subst c61
              have H1 : ((laws_markScheme.f kj13 t187 t188 t189 1).bind fun bt207 => (if bt207.1 < 0 then (laws_FnExactAddWord.j1 kj13 a1 t185 true a0_0 a0_1 l0_2 t180 t181 t182 t193 t194 t195) else ((laws_eqScheme.f kj13 t193 t194 t195 t180 t181 t182).bind fun t209 => (if t209 = true then (laws_FnExactAddWord.j1 kj13 a1 t185 (t198 != t185) a0_0 a0_1 l0_2 t180 t181 t182 t193 t194 t195) else (laws_FnExactAddWord.j1 kj13 a1 t185 true a0_0 a0_1 l0_2 t180 t181 t182 t193 t194 t195))))) = some r := by rw [if_pos rfl] at H; exact H
              clear H
              have H := H1
              clear H1
              replace H := Option.bind_eq_some_iff.mp H
              obtain ⟨⟨t207, t208⟩, A620, H⟩ := H
              replace H : (if t207 < 0 then (laws_FnExactAddWord.j1 kj13 a1 t185 true a0_0 a0_1 l0_2 t180 t181 t182 t193 t194 t195) else ((laws_eqScheme.f kj13 t193 t194 t195 t180 t181 t182).bind fun t209 => (if t209 = true then (laws_FnExactAddWord.j1 kj13 a1 t185 (t198 != t185) a0_0 a0_1 l0_2 t180 t181 t182 t193 t194 t195) else (laws_FnExactAddWord.j1 kj13 a1 t185 true a0_0 a0_1 l0_2 t180 t181 t182 t193 t194 t195)))) = some r := H
              have A62 := Aside0.mk A620
              clear A620
              have HC63 := Aside0.mk H
              clear H
              try go_wp2
              have n0_ := Aside0.mk (Kd.R_drew HO_187002.out)
              have n1_ := Aside0.mk (Kd.R_drew HO_193002.out)
              have n2_ := Aside0.mk (Kd.R_drew HO_200002.out)
              have n3_ := Aside0.mk (blk_drew BK173.out)
              have n4_ := Aside0.mk (blk_drew BK186.out)
              have n5_ := Aside0.mk (blk_drew BK192.out)
              have n6_ := Aside0.mk (blk_drew BK199.out)
              have n7_ := Aside0.mk (below_drew1 HB.out)
              clear HO_187002
              clear HO_193002
              clear HO_200002
              clear BK173
              clear BK186
              clear BK192
              clear BK199
              clear HB
              have HO_187002 := n0_
              have HO_193002 := n1_
              have HO_200002 := n2_
              have BK173 := n3_
              have BK186 := n4_
              have BK192 := n5_
              have BK199 := n6_
              have HB := n7_
              clear n0_ n1_ n2_ n3_ n4_ n5_ n6_ n7_
              refine start_ (n := 5) (S := fun w' => w'.cell? ⟨gb192, 0, none⟩ = some (.string t187) ∧ w'.cell? ⟨gb192, 1, none⟩ = some (.string t188) ∧ w'.cell? ⟨gb192, 2, none⟩ = some (.slice Ao32 t189.length co32) ∧ w'.cell? ⟨gb173, 0, none⟩ = some (.string a0_0) ∧ w'.cell? ⟨gb173, 1, none⟩ = some (.string a0_1) ∧ w'.cell? ⟨gb173, 2, none⟩ = some (.slice A0_2 l0_2.length c0_2)) (ds := []) #[false, false, false, false, false] (by kernel_rfl) rfl rfl ⟨(blk_cell BK192.out 0).trans rfl, (blk_cell BK192.out 1).trans rfl, (blk_cell BK192.out 2).trans rfl, (blk_cell BK173.out 0).trans rfl, (blk_cell BK173.out 1).trans rfl, (blk_cell BK173.out 2).trans rfl⟩ (fun hHeld => ?_)
              generalize wc.drew = w64 at HO_187002 HO_193002 HO_200002 BK173 BK186 BK192 BK199 HB hHeld ⊢
              refine take_ (i := 0) (N := some 48) (v := ?_) (a' := ?_) #[true, false, false, false, false] rfl rfl (by kernel_rfl) (fun _ _ _ h => h) (Or.inl ⟨by rfl, ?_⟩) hHeld ?_ ?_
              rotate_left
              · rintro w' ⟨s0, s1, s2, s3, s4, s5⟩
                go_simp
                with_reducible rfl
              rotate_left
              · simp only [Act.put, List.setIfInBounds_toArray, List.set_cons_zero, List.set_cons_succ, i64_w, i32_w]
                rfl
              refine take_ (i := 1) (N := some 49) (v := ?_) (a' := ?_) #[true, true, false, false, false] rfl rfl (by kernel_rfl) (fun _ _ _ h => h) (Or.inl ⟨by rfl, ?_⟩) hHeld ?_ ?_
              rotate_left
              · rintro w' ⟨s0, s1, s2, s3, s4, s5⟩
                go_simp
                with_reducible rfl
              rotate_left
              · simp only [Act.put, List.setIfInBounds_toArray, List.set_cons_zero, List.set_cons_succ, i64_w, i32_w]
                rfl
              refine one_ (i := 2) (N := some 50) #[true, true, true, false, false] rfl rfl (by kernel_rfl) (by decide) (fun K hK => ?_)
              refine goes_ Tryd.func12 (by kernel_rfl) rfl #[.agg #[.string a0_0, .string a0_1, .slice A0_2 l0_2.length c0_2]] (by rfl) rfl rfl (by (try simp only [List.map_toArray, List.map_cons, List.map_nil]); first | done | rfl | (simp only [List.length_drop, List.length_take]; rfl)) ?_
              with_reducible refine (laws_toScheme.calls kj13 a0_0 a0_1 _ _ l0_2 t201 t202 t203 _ ?side1 ?side2 A59.out).mono ?_
              (case side1 => repeat (first | exact (Kd.C_below HR0_2.out HB.out) | (with_reducible refine Kd.C_alloc ?_ _) | (with_reducible refine Kd.C_drewN ?_ _) | (with_reducible refine Kd.C_drew ?_)))
              (case side2 => exact HC0_2.out)
              rintro e w65 ⟨v204, rfl, ho0, hb⟩
              refine ⟨_, rfl, ?_⟩
              have n0_ := Aside0.mk (Kd.R_elder' (by (with_reducible repeat (first | apply Kd.R_alloc | apply Kd.R_drewN | apply Kd.R_drew)); exact HO_187002.out) (Kd.R_base ho0) hb)
              have n1_ := Aside0.mk (Kd.R_elder' (by (with_reducible repeat (first | apply Kd.R_alloc | apply Kd.R_drewN | apply Kd.R_drew)); exact HO_193002.out) (Kd.R_base ho0) hb)
              have n2_ := Aside0.mk (Kd.R_elder' (by (with_reducible repeat (first | apply Kd.R_alloc | apply Kd.R_drewN | apply Kd.R_drew)); exact HO_200002.out) (Kd.R_base ho0) hb)
              have n3_ := Aside0.mk (Kd.R_lower (Kd.R_new' (Kd.R_new' (Kd.R_new' ho0 (Kd.R_lt (by (with_reducible repeat (first | apply Kd.R_alloc | apply Kd.R_drewN | apply Kd.R_drew)); exact HO_187002.out))) (Kd.R_lt (by (with_reducible repeat (first | apply Kd.R_alloc | apply Kd.R_drewN | apply Kd.R_drew)); exact HO_193002.out))) (Kd.R_lt (by (with_reducible repeat (first | apply Kd.R_alloc | apply Kd.R_drewN | apply Kd.R_drew)); exact HO_200002.out))) (below_size (by repeat (first | (with_reducible first | exact HB.out | apply below_alloc | apply pw_below_drewN | apply below_drew1 | refine below_set ?_ GE173.out | refine below_set ?_ GE186.out | refine below_set ?_ GE192.out | refine below_set ?_ GE199.out) | exact HB.out))))
              have n4_ := Aside0.mk (blk_below (g := gb173) (o := .cells #[.string a0_0, .string a0_1, .slice A0_2 l0_2.length c0_2] 24 (0, 0)) (by (with_reducible repeat (first | refine blk_drewN ?_ _ | refine blk_drew ?_ | refine blk_alloc ?_ _)); exact BK173.out) hb)
              have n5_ := Aside0.mk (blk_below (g := gb186) (o := .cells #[.string t180, .string t181, .slice Ao25 t182.length co25] 28 (0, 0)) (by (with_reducible repeat (first | refine blk_drewN ?_ _ | refine blk_drew ?_ | refine blk_alloc ?_ _)); exact BK186.out) hb)
              have n6_ := Aside0.mk (blk_below (g := gb192) (o := .cells #[.string t187, .string t188, .slice Ao32 t189.length co32] 28 (0, 0)) (by (with_reducible repeat (first | refine blk_drewN ?_ _ | refine blk_drew ?_ | refine blk_alloc ?_ _)); exact BK192.out) hb)
              have n7_ := Aside0.mk (blk_below (g := gb199) (o := .cells #[.string t193, .string t194, .slice Ao39 t195.length co39] 28 (0, 0)) (by (with_reducible repeat (first | refine blk_drewN ?_ _ | refine blk_drew ?_ | refine blk_alloc ?_ _)); exact BK199.out) hb)
              have n8_ := Aside0.mk (below_step (by repeat (first | (with_reducible first | exact HB.out | apply below_alloc | apply pw_below_drewN | apply below_drew1 | refine below_set ?_ GE173.out | refine below_set ?_ GE186.out | refine below_set ?_ GE192.out | refine below_set ?_ GE199.out) | exact HB.out)) hb)
              clear HO_187002
              clear HO_193002
              clear HO_200002
              clear BK173
              clear BK186
              clear BK192
              clear BK199
              clear HB
              have HO_187002 := n0_
              have HO_193002 := n1_
              have HO_200002 := n2_
              have HO205 := n3_
              have BK173 := n4_
              have BK186 := n5_
              have BK192 := n6_
              have BK199 := n7_
              have HB := n8_
              clear n0_ n1_ n2_ n3_ n4_ n5_ n6_ n7_ n8_
              (try clear hb)
              (try clear hb2)
              (try clear hk)
              (try clear hi)
              (try clear ho0)
              obtain ⟨Ao66, co66, eo66⟩ := Kd.R_slice HO205.out
              (first | subst eo66 | (injection eo66 with f1_ f2_ f3_; have f4_ := f1_.symm; have f5_ := f3_.symm; clear f1_ f2_ f3_; subst f4_; subst f5_))
              refine hK.out _ _ ⟨(blk_cell BK192.out 0).trans rfl, (blk_cell BK192.out 1).trans rfl, (blk_cell BK192.out 2).trans rfl, (blk_cell BK173.out 0).trans rfl, (blk_cell BK173.out 1).trans rfl, (blk_cell BK173.out 2).trans rfl⟩ (fun hHeld => ?_)
              clear hK K
              refine norm_ (a' := ?_) ?_ ?_
              rotate_left
              · show Act.put _ (some 50) _ = _
                simp only [Act.put, List.setIfInBounds_toArray, List.set_cons_zero, List.set_cons_succ, i64_w, i32_w]
                rfl
              refine one_ (i := 3) (N := some 51) #[true, true, true, true, false] rfl rfl (by kernel_rfl) (by decide) (fun K hK => ?_)
              refine goes_ Tryd.func14 (by kernel_rfl) rfl #[.agg #[.string t187, .string t188, .slice Ao32 t189.length co32], .agg #[.string t201, .string t202, .slice Ao66 t203.length co66]] (by rfl) rfl rfl (by (try simp only [List.map_toArray, List.map_cons, List.map_nil]); first | done | rfl | (simp only [List.length_drop, List.length_take]; rfl)) ?_
              with_reducible refine (laws_eqScheme.calls kj13 t187 t188 _ _ t189 t201 t202 _ _ t203 true _ ?side1 ?side2 ?side3 ?side4 A60.out).mono ?_
              (case side1 => repeat (first | exact (Kd.R_reads' HO_193002.out).2.2 | (with_reducible refine Kd.C_alloc ?_ _) | (with_reducible refine Kd.C_drewN ?_ _) | (with_reducible refine Kd.C_drew ?_)))
              (case side2 => exact (Kd.R_reads' HO_193002.out).2.1)
              (case side3 => repeat (first | exact (Kd.R_reads' HO205.out).2.2 | (with_reducible refine Kd.C_alloc ?_ _) | (with_reducible refine Kd.C_drewN ?_ _) | (with_reducible refine Kd.C_drew ?_)))
              (case side4 => exact (Kd.R_reads' HO205.out).2.1)
              rintro e w67 ⟨rfl, hb⟩
              refine ⟨_, rfl, ?_⟩
              have n0_ := Aside0.mk (Kd.R_below (by (with_reducible repeat (first | apply Kd.R_alloc | apply Kd.R_drewN | apply Kd.R_drew)); exact HO_187002.out) hb)
              have n1_ := Aside0.mk (Kd.R_below (by (with_reducible repeat (first | apply Kd.R_alloc | apply Kd.R_drewN | apply Kd.R_drew)); exact HO_193002.out) hb)
              have n2_ := Aside0.mk (Kd.R_below (by (with_reducible repeat (first | apply Kd.R_alloc | apply Kd.R_drewN | apply Kd.R_drew)); exact HO_200002.out) hb)
              have n3_ := Aside0.mk (Kd.R_below (by (with_reducible repeat (first | apply Kd.R_alloc | apply Kd.R_drewN | apply Kd.R_drew)); exact HO205.out) hb)
              have n4_ := Aside0.mk (blk_below (g := gb173) (o := .cells #[.string a0_0, .string a0_1, .slice A0_2 l0_2.length c0_2] 24 (0, 0)) (by (with_reducible repeat (first | refine blk_drewN ?_ _ | refine blk_drew ?_ | refine blk_alloc ?_ _)); exact BK173.out) hb)
              have n5_ := Aside0.mk (blk_below (g := gb186) (o := .cells #[.string t180, .string t181, .slice Ao25 t182.length co25] 28 (0, 0)) (by (with_reducible repeat (first | refine blk_drewN ?_ _ | refine blk_drew ?_ | refine blk_alloc ?_ _)); exact BK186.out) hb)
              have n6_ := Aside0.mk (blk_below (g := gb192) (o := .cells #[.string t187, .string t188, .slice Ao32 t189.length co32] 28 (0, 0)) (by (with_reducible repeat (first | refine blk_drewN ?_ _ | refine blk_drew ?_ | refine blk_alloc ?_ _)); exact BK192.out) hb)
              have n7_ := Aside0.mk (blk_below (g := gb199) (o := .cells #[.string t193, .string t194, .slice Ao39 t195.length co39] 28 (0, 0)) (by (with_reducible repeat (first | refine blk_drewN ?_ _ | refine blk_drew ?_ | refine blk_alloc ?_ _)); exact BK199.out) hb)
              have n8_ := Aside0.mk (below_step (by repeat (first | (with_reducible first | exact HB.out | apply below_alloc | apply pw_below_drewN | apply below_drew1 | refine below_set ?_ GE173.out | refine below_set ?_ GE186.out | refine below_set ?_ GE192.out | refine below_set ?_ GE199.out) | exact HB.out)) hb)
              clear HO_187002
              clear HO_193002
              clear HO_200002
              clear HO205
              clear BK173
              clear BK186
              clear BK192
              clear BK199
              clear HB
              have HO_187002 := n0_
              have HO_193002 := n1_
              have HO_200002 := n2_
              have HO205 := n3_
              have BK173 := n4_
              have BK186 := n5_
              have BK192 := n6_
              have BK199 := n7_
              have HB := n8_
              clear n0_ n1_ n2_ n3_ n4_ n5_ n6_ n7_ n8_
              (try clear hb)
              (try clear hb2)
              (try clear hk)
              (try clear hi)
              refine hK.out _ _ ⟨(blk_cell BK192.out 0).trans rfl, (blk_cell BK192.out 1).trans rfl, (blk_cell BK192.out 2).trans rfl, (blk_cell BK173.out 0).trans rfl, (blk_cell BK173.out 1).trans rfl, (blk_cell BK173.out 2).trans rfl⟩ (fun hHeld => ?_)
              clear hK K
              refine norm_ (a' := ?_) ?_ ?_
              rotate_left
              · show Act.put _ (some 51) _ = _
                simp only [Act.put, List.setIfInBounds_toArray, List.set_cons_zero, List.set_cons_succ, i64_w, i32_w]
                rfl
              refine pure_ (i := 4) (N := some 52) (v := ?_) (a' := ?_) #[true, true, true, true, true] rfl rfl (by kernel_rfl) (fun _ _ _ h => h) (Or.inl ⟨by rfl, ?_⟩) ?_ ?_
              rotate_left
              · intro w'
                go_simp
                with_reducible rfl
              rotate_left
              · simp only [Act.put, List.setIfInBounds_toArray, List.set_cons_zero, List.set_cons_succ, i64_w, i32_w]
                rfl
              refine done_ (by kernel_rfl) ?_
              have hnb68 := NB192_173.out
              have hnc68 := NB173_192.out
              have hnb69 := NB192_186.out
              have hnc69 := NB186_192.out
              have hnb70 := NB192_199.out
              have hnc70 := NB199_192.out
              have hcz71_0 : w67.cell? ⟨gb192, 0, none⟩ = some (.string t187) := (blk_cell BK192.out 0).trans rfl
              have hcz71_1 : w67.cell? ⟨gb192, 1, none⟩ = some (.string t188) := (blk_cell BK192.out 1).trans rfl
              have hcz71_2 : w67.cell? ⟨gb192, 2, none⟩ = some (.slice Ao32 t189.length co32) := (blk_cell BK192.out 2).trans rfl
              have hfz71_0 := blk_frozen BK192.out 0
              have hfz71_1 := blk_frozen BK192.out 1
              have hfz71_2 := blk_frozen BK192.out 2
              go_upto_region 16 with (first | ((with_reducible refine gate_callee (f := 17) rfl ?_); refine goesL_ (some 55) rfl rfl Tryd.func17 (by kernel_rfl) rfl #[.agg #[.string t187, .string t188, .slice Ao32 t189.length co32], .int .i64 1] rfl (by (try simp only [List.map_toArray, List.map_cons, List.map_nil]); first | done | rfl | (simp only [List.length_drop, List.length_take]; rfl)) ?_; (with_reducible refine (laws_markScheme.calls kj13 t187 t188 (fun k_ => some k_ = (.slice Ao32 t189.length co32 : Value).ownBlock) (.slice Ao32 t189.length co32) t189 1 t207 t208 w _ ?side1 ?side2 A62.out).mono ?_); (case side1 => repeat (first | (with_reducible first | exact HB.out | apply below_alloc | apply pw_below_drewN | apply below_drew1 | refine below_set ?_ GE173.out | refine below_set ?_ GE186.out | refine below_set ?_ GE192.out | refine below_set ?_ GE199.out) | exact HB.out)); (case side2 => exact Kd.R_tight rfl HO_193002.out); rintro e w72 ⟨rfl, hy0, hb, hkp⟩; refine ⟨_, rfl, ?_⟩; have n0_ := Aside0.mk (Kd.R_mono (ok' := fun k_ => some k_ ≠ (.slice Ao32 t189.length co32 : Value).ownBlock ∧ some k_ ≠ (.slice Ao39 t195.length co39 : Value).ownBlock ∧ some k_ ≠ (.slice Ao66 t203.length co66 : Value).ownBlock) (Kd.R_keptB (HO_187002.out) hkp (fun k_ hk_ hs_ => (hk_.1.1) hs_)) (fun k_ hk_ => ⟨hk_.1.1.1, hk_.1.1.2, hk_.1.2⟩)); have n1_ := Aside0.mk (Kd.R_reok rfl hy0 (fun k_ e_ => HO_193002.out.1 k_ e_)); have n2_ := Aside0.mk (Kd.R_mono (ok' := fun k_ => some k_ ≠ (.slice Ao25 t182.length co25 : Value).ownBlock ∧ some k_ ≠ (.slice Ao32 t189.length co32 : Value).ownBlock ∧ some k_ ≠ (.slice Ao66 t203.length co66 : Value).ownBlock) (Kd.R_keptB (HO_200002.out) hkp (fun k_ hk_ hs_ => (hk_.1.2) hs_)) (fun k_ hk_ => ⟨hk_.1.1.1, hk_.1.1.2, hk_.1.2⟩)); have n3_ := Aside0.mk (blk_kept (by (with_reducible repeat (first | refine blk_drewN ?_ _ | refine blk_drew ?_ | refine blk_alloc ?_ _)); exact BK173.out) hkp (fun hs_ => (fun e_ => (Kd.R_ne HO_193002.out BK173.out (by decide)) e_) hs_)); have n4_ := Aside0.mk (blk_kept (by (with_reducible repeat (first | refine blk_drewN ?_ _ | refine blk_drew ?_ | refine blk_alloc ?_ _)); exact BK186.out) hkp (fun hs_ => (fun e_ => (Kd.R_ne HO_193002.out BK186.out (by decide)) e_) hs_)); have n5_ := Aside0.mk (blk_kept (by (with_reducible repeat (first | refine blk_drewN ?_ _ | refine blk_drew ?_ | refine blk_alloc ?_ _)); exact BK192.out) hkp (fun hs_ => (fun e_ => (Kd.R_ne HO_193002.out BK192.out (by decide)) e_) hs_)); have n6_ := Aside0.mk (blk_kept (by (with_reducible repeat (first | refine blk_drewN ?_ _ | refine blk_drew ?_ | refine blk_alloc ?_ _)); exact BK199.out) hkp (fun hs_ => (fun e_ => (Kd.R_ne HO_193002.out BK199.out (by decide)) e_) hs_)); have n7_ := Aside0.mk (Kd.R_mono (ok' := fun k_ => some k_ ≠ (.slice Ao25 t182.length co25 : Value).ownBlock ∧ some k_ ≠ (.slice Ao32 t189.length co32 : Value).ownBlock ∧ some k_ ≠ (.slice Ao39 t195.length co39 : Value).ownBlock) (Kd.R_keptB (HO205.out) hkp (fun k_ hk_ hs_ => (hk_.1.2) hs_)) (fun k_ hk_ => ⟨hk_.1.1.1.2, hk_.1.1.2, hk_.1.2⟩)); have n8_ := Aside0.mk (hb); clear HO_187002; clear HO_193002; clear HO_200002; clear BK173; clear BK186; clear BK192; clear BK199; clear HO205; clear HB; have HO_187002 := n0_; have HO_193002 := n1_; have HO_200002 := n2_; have BK173 := n3_; have BK186 := n4_; have BK192 := n5_; have BK199 := n6_; have HO205 := n7_; have HB := n8_; clear n0_ n1_ n2_ n3_ n4_ n5_ n6_ n7_ n8_; (try clear hb); (try clear hkp); (try clear hy0)))
              (try simp only [Act.put, List.setIfInBounds_toArray, List.set_cons_zero, List.set_cons_succ])
              go_cut [68] (fun v68 wc => ∃ (kq : Nat) (x68_62 : Bool), v68 = .bool x68_62 ∧ Aside0 (laws_FnExactAddWord.j1 kq a1 t185 x68_62 a0_0 a0_1 l0_2 t180 t181 t182 t193 t194 t195 = some r) ∧ Aside0 (kq ≤ kj13) ∧ Aside0 (Kd.R Kd.string 9 wc w.heap.size (fun k_ => some k_ ≠ ((.slice Ao32 t189.length co32) : Value).ownBlock ∧ some k_ ≠ ((.slice Ao39 t195.length co39) : Value).ownBlock) (.slice Ao25 t182.length co25) t182) ∧ Aside0 (Kd.R Kd.string 9 wc w.heap.size (fun k_ => some k_ ≠ ((.slice Ao25 t182.length co25) : Value).ownBlock ∧ some k_ ≠ ((.slice Ao39 t195.length co39) : Value).ownBlock) (.slice Ao32 t189.length co32) t208) ∧ Aside0 (Kd.R Kd.string 9 wc w.heap.size (fun k_ => some k_ ≠ ((.slice Ao25 t182.length co25) : Value).ownBlock ∧ some k_ ≠ ((.slice Ao32 t189.length co32) : Value).ownBlock) (.slice Ao39 t195.length co39) t195) ∧ Aside0 (wc.heap[gb173]? = some (.cells #[.string a0_0, .string a0_1, (.slice A0_2 l0_2.length c0_2)] 24 (0, 0))) ∧ Aside0 (wc.heap[gb186]? = some (.cells #[.string t180, .string t181, (.slice Ao25 t182.length co25)] 28 (0, 0))) ∧ Aside0 (wc.heap[gb192]? = some (.cells #[.string t187, .string t188, (.slice Ao32 t189.length co32)] 28 (0, 0))) ∧ Aside0 (wc.heap[gb199]? = some (.cells #[.string t193, .string t194, (.slice Ao39 t195.length co39)] 28 (0, 0))) ∧ Aside0 (Below w.heap.size w wc))
              case first =>
                have H := HC63.out
                clear HC63
                by_cases c73 : t207 < 0
                · rw [if_pos c73] at H
                  have c73b0 : decide (t207 < 0) = true := decide_eq_true c73
                  clear c73
                  (first | rw [c73b0] | (simp only [i64_w, i32_w]; rw [c73b0]) | skip)
                  have H' := Aside0.mk H
                  clear H
                  go_wp2
                  go_meet
                  case rel => exact ⟨_, (true), (by first | rfl | (simp; done) | (simp [*]; done)), H', ⟨by have := HJ13.out; first | omega | exact Nat.le_refl _⟩, ⟨by (with_reducible repeat (first | apply Kd.R_alloc | apply Kd.R_drewN | apply Kd.R_drew)); exact Kd.R_mono HO_187002.out (fun _ hk => ⟨hk.1, hk.2.1⟩)⟩, ⟨by (with_reducible repeat (first | apply Kd.R_alloc | apply Kd.R_drewN | apply Kd.R_drew)); exact Kd.R_mono HO_193002.out (fun _ hk => ⟨hk.1.1, hk.1.2⟩)⟩, ⟨by (with_reducible repeat (first | apply Kd.R_alloc | apply Kd.R_drewN | apply Kd.R_drew)); exact Kd.R_mono HO_200002.out (fun _ hk => ⟨hk.1, hk.2.1⟩)⟩, ⟨by (with_reducible repeat (first | refine blk_drewN ?_ _ | refine blk_drew ?_ | refine blk_alloc ?_ _)); exact BK173.out⟩, ⟨by (with_reducible repeat (first | refine blk_drewN ?_ _ | refine blk_drew ?_ | refine blk_alloc ?_ _)); exact BK186.out⟩, ⟨by (with_reducible repeat (first | refine blk_drewN ?_ _ | refine blk_drew ?_ | refine blk_alloc ?_ _)); exact BK192.out⟩, ⟨by (with_reducible repeat (first | refine blk_drewN ?_ _ | refine blk_drew ?_ | refine blk_alloc ?_ _)); exact BK199.out⟩, ⟨by repeat (first | (with_reducible first | exact HB.out | apply below_alloc | apply pw_below_drewN | apply below_drew1 | refine below_set ?_ GE173.out | refine below_set ?_ GE186.out | refine below_set ?_ GE192.out | refine below_set ?_ GE199.out) | exact HB.out)⟩⟩
                · rw [if_neg c73] at H
                  have c73b0 : decide (t207 < 0) = false := decide_eq_false c73
                  clear c73
                  (first | rw [c73b0] | (simp only [i64_w, i32_w]; rw [c73b0]) | skip)
                  replace H := Option.bind_eq_some_iff.mp H
                  obtain ⟨t209, A740, H⟩ := H
                  replace H : (if t209 = true then (laws_FnExactAddWord.j1 kj13 a1 t185 (t198 != t185) a0_0 a0_1 l0_2 t180 t181 t182 t193 t194 t195) else (laws_FnExactAddWord.j1 kj13 a1 t185 true a0_0 a0_1 l0_2 t180 t181 t182 t193 t194 t195)) = some r := H
                  have A74 := Aside0.mk A740
                  clear A740
                  by_cases c75 : t209 = true
                  · subst c75
                    have H1 : (laws_FnExactAddWord.j1 kj13 a1 t185 (t198 != t185) a0_0 a0_1 l0_2 t180 t181 t182 t193 t194 t195) = some r := by rw [if_pos rfl] at H; exact H
                    clear H
                    have H := H1
                    clear H1
                    have H' := Aside0.mk H
                    clear H
                    have hnb76 := NB199_173.out
                    have hnc76 := NB173_199.out
                    have hnb77 := NB199_186.out
                    have hnc77 := NB186_199.out
                    have hnb78 := NB199_192.out
                    have hnc78 := NB192_199.out
                    have hcz79_0 : w72.cell? ⟨gb199, 0, none⟩ = some (.string t193) := (blk_cell BK199.out 0).trans rfl
                    have hcz79_1 : w72.cell? ⟨gb199, 1, none⟩ = some (.string t194) := (blk_cell BK199.out 1).trans rfl
                    have hcz79_2 : w72.cell? ⟨gb199, 2, none⟩ = some (.slice Ao39 t195.length co39) := (blk_cell BK199.out 2).trans rfl
                    have hfz79_0 := blk_frozen BK199.out 0
                    have hfz79_1 := blk_frozen BK199.out 1
                    have hfz79_2 := blk_frozen BK199.out 2
                    have hnb80 := NB186_173.out
                    have hnc80 := NB173_186.out
                    have hnb81 := NB186_192.out
                    have hnc81 := NB192_186.out
                    have hcz82_0 : w72.cell? ⟨gb186, 0, none⟩ = some (.string t180) := (blk_cell BK186.out 0).trans rfl
                    have hcz82_1 : w72.cell? ⟨gb186, 1, none⟩ = some (.string t181) := (blk_cell BK186.out 1).trans rfl
                    have hcz82_2 : w72.cell? ⟨gb186, 2, none⟩ = some (.slice Ao25 t182.length co25) := (blk_cell BK186.out 2).trans rfl
                    have hfz82_0 := blk_frozen BK186.out 0
                    have hfz82_1 := blk_frozen BK186.out 1
                    have hfz82_2 := blk_frozen BK186.out 2
                    go_wp2_with (first | (go_at_call 14; (with_reducible refine (laws_eqScheme.calls kj13 t193 t194 _ _ t195 t180 t181 _ _ t182 true _ ?side1 ?side2 ?side3 ?side4 A74.out).mono ?_); (case side1 => repeat (first | exact (Kd.R_reads' HO_200002.out).2.2 | (with_reducible refine Kd.C_alloc ?_ _) | (with_reducible refine Kd.C_drewN ?_ _) | (with_reducible refine Kd.C_drew ?_))); (case side2 => exact (Kd.R_reads' HO_200002.out).2.1); (case side3 => repeat (first | exact (Kd.R_reads' HO_187002.out).2.2 | (with_reducible refine Kd.C_alloc ?_ _) | (with_reducible refine Kd.C_drewN ?_ _) | (with_reducible refine Kd.C_drew ?_))); (case side4 => exact (Kd.R_reads' HO_187002.out).2.1); rintro e w83 ⟨rfl, hb⟩; have n0_ := Aside0.mk (Kd.R_below (by (with_reducible repeat (first | apply Kd.R_alloc | apply Kd.R_drewN | apply Kd.R_drew)); exact HO_187002.out) hb); have n1_ := Aside0.mk (Kd.R_below (by (with_reducible repeat (first | apply Kd.R_alloc | apply Kd.R_drewN | apply Kd.R_drew)); exact HO_193002.out) hb); have n2_ := Aside0.mk (Kd.R_below (by (with_reducible repeat (first | apply Kd.R_alloc | apply Kd.R_drewN | apply Kd.R_drew)); exact HO_200002.out) hb); have n3_ := Aside0.mk (Kd.R_below (by (with_reducible repeat (first | apply Kd.R_alloc | apply Kd.R_drewN | apply Kd.R_drew)); exact HO205.out) hb); have n4_ := Aside0.mk (blk_below (g := gb173) (o := .cells #[.string a0_0, .string a0_1, .slice A0_2 l0_2.length c0_2] 24 (0, 0)) (by (with_reducible repeat (first | refine blk_drewN ?_ _ | refine blk_drew ?_ | refine blk_alloc ?_ _)); exact BK173.out) hb); have n5_ := Aside0.mk (blk_below (g := gb186) (o := .cells #[.string t180, .string t181, .slice Ao25 t182.length co25] 28 (0, 0)) (by (with_reducible repeat (first | refine blk_drewN ?_ _ | refine blk_drew ?_ | refine blk_alloc ?_ _)); exact BK186.out) hb); have n6_ := Aside0.mk (blk_below (g := gb192) (o := .cells #[.string t187, .string t188, .slice Ao32 t189.length co32] 28 (0, 0)) (by (with_reducible repeat (first | refine blk_drewN ?_ _ | refine blk_drew ?_ | refine blk_alloc ?_ _)); exact BK192.out) hb); have n7_ := Aside0.mk (blk_below (g := gb199) (o := .cells #[.string t193, .string t194, .slice Ao39 t195.length co39] 28 (0, 0)) (by (with_reducible repeat (first | refine blk_drewN ?_ _ | refine blk_drew ?_ | refine blk_alloc ?_ _)); exact BK199.out) hb); have n8_ := Aside0.mk (below_step (by repeat (first | (with_reducible first | exact HB.out | apply below_alloc | apply pw_below_drewN | apply below_drew1 | refine below_set ?_ GE173.out | refine below_set ?_ GE186.out | refine below_set ?_ GE192.out | refine below_set ?_ GE199.out) | exact HB.out)) hb); clear HO_187002; clear HO_193002; clear HO_200002; clear HO205; clear BK173; clear BK186; clear BK192; clear BK199; clear HB; have HO_187002 := n0_; have HO_193002 := n1_; have HO_200002 := n2_; have HO205 := n3_; have BK173 := n4_; have BK186 := n5_; have BK192 := n6_; have BK199 := n7_; have HB := n8_; clear n0_ n1_ n2_ n3_ n4_ n5_ n6_ n7_ n8_; (try clear hb); (try clear hb2); (try clear hk); (try clear hi)))
                    go_meet
                    case rel => exact ⟨_, ((t198 != t185)), (by first | rfl | (simp; done) | (simp [*]; done)), H', ⟨by have := HJ13.out; first | omega | exact Nat.le_refl _⟩, ⟨by (with_reducible repeat (first | apply Kd.R_alloc | apply Kd.R_drewN | apply Kd.R_drew)); exact Kd.R_mono HO_187002.out (fun _ hk => ⟨hk.1, hk.2.1⟩)⟩, ⟨by (with_reducible repeat (first | apply Kd.R_alloc | apply Kd.R_drewN | apply Kd.R_drew)); exact Kd.R_mono HO_193002.out (fun _ hk => ⟨hk.1.1, hk.1.2⟩)⟩, ⟨by (with_reducible repeat (first | apply Kd.R_alloc | apply Kd.R_drewN | apply Kd.R_drew)); exact Kd.R_mono HO_200002.out (fun _ hk => ⟨hk.1, hk.2.1⟩)⟩, ⟨by (with_reducible repeat (first | refine blk_drewN ?_ _ | refine blk_drew ?_ | refine blk_alloc ?_ _)); exact BK173.out⟩, ⟨by (with_reducible repeat (first | refine blk_drewN ?_ _ | refine blk_drew ?_ | refine blk_alloc ?_ _)); exact BK186.out⟩, ⟨by (with_reducible repeat (first | refine blk_drewN ?_ _ | refine blk_drew ?_ | refine blk_alloc ?_ _)); exact BK192.out⟩, ⟨by (with_reducible repeat (first | refine blk_drewN ?_ _ | refine blk_drew ?_ | refine blk_alloc ?_ _)); exact BK199.out⟩, ⟨by repeat (first | (with_reducible first | exact HB.out | apply below_alloc | apply pw_below_drewN | apply below_drew1 | refine below_set ?_ GE173.out | refine below_set ?_ GE186.out | refine below_set ?_ GE192.out | refine below_set ?_ GE199.out) | exact HB.out)⟩⟩
                  · replace c75 := Bool.eq_false_iff.mpr c75
                    subst c75
                    have H1 : (laws_FnExactAddWord.j1 kj13 a1 t185 true a0_0 a0_1 l0_2 t180 t181 t182 t193 t194 t195) = some r := by rw [if_neg (show ¬ (false = true) by decide)] at H; exact H
                    clear H
                    have H := H1
                    clear H1
                    have H' := Aside0.mk H
                    clear H
                    have hnb84 := NB199_173.out
                    have hnc84 := NB173_199.out
                    have hnb85 := NB199_186.out
                    have hnc85 := NB186_199.out
                    have hnb86 := NB199_192.out
                    have hnc86 := NB192_199.out
                    have hcz87_0 : w72.cell? ⟨gb199, 0, none⟩ = some (.string t193) := (blk_cell BK199.out 0).trans rfl
                    have hcz87_1 : w72.cell? ⟨gb199, 1, none⟩ = some (.string t194) := (blk_cell BK199.out 1).trans rfl
                    have hcz87_2 : w72.cell? ⟨gb199, 2, none⟩ = some (.slice Ao39 t195.length co39) := (blk_cell BK199.out 2).trans rfl
                    have hfz87_0 := blk_frozen BK199.out 0
                    have hfz87_1 := blk_frozen BK199.out 1
                    have hfz87_2 := blk_frozen BK199.out 2
                    have hnb88 := NB186_173.out
                    have hnc88 := NB173_186.out
                    have hnb89 := NB186_192.out
                    have hnc89 := NB192_186.out
                    have hcz90_0 : w72.cell? ⟨gb186, 0, none⟩ = some (.string t180) := (blk_cell BK186.out 0).trans rfl
                    have hcz90_1 : w72.cell? ⟨gb186, 1, none⟩ = some (.string t181) := (blk_cell BK186.out 1).trans rfl
                    have hcz90_2 : w72.cell? ⟨gb186, 2, none⟩ = some (.slice Ao25 t182.length co25) := (blk_cell BK186.out 2).trans rfl
                    have hfz90_0 := blk_frozen BK186.out 0
                    have hfz90_1 := blk_frozen BK186.out 1
                    have hfz90_2 := blk_frozen BK186.out 2
                    go_wp2_with (first | (go_at_call 14; (with_reducible refine (laws_eqScheme.calls kj13 t193 t194 _ _ t195 t180 t181 _ _ t182 false _ ?side1 ?side2 ?side3 ?side4 A74.out).mono ?_); (case side1 => repeat (first | exact (Kd.R_reads' HO_200002.out).2.2 | (with_reducible refine Kd.C_alloc ?_ _) | (with_reducible refine Kd.C_drewN ?_ _) | (with_reducible refine Kd.C_drew ?_))); (case side2 => exact (Kd.R_reads' HO_200002.out).2.1); (case side3 => repeat (first | exact (Kd.R_reads' HO_187002.out).2.2 | (with_reducible refine Kd.C_alloc ?_ _) | (with_reducible refine Kd.C_drewN ?_ _) | (with_reducible refine Kd.C_drew ?_))); (case side4 => exact (Kd.R_reads' HO_187002.out).2.1); rintro e w91 ⟨rfl, hb⟩; have n0_ := Aside0.mk (Kd.R_below (by (with_reducible repeat (first | apply Kd.R_alloc | apply Kd.R_drewN | apply Kd.R_drew)); exact HO_187002.out) hb); have n1_ := Aside0.mk (Kd.R_below (by (with_reducible repeat (first | apply Kd.R_alloc | apply Kd.R_drewN | apply Kd.R_drew)); exact HO_193002.out) hb); have n2_ := Aside0.mk (Kd.R_below (by (with_reducible repeat (first | apply Kd.R_alloc | apply Kd.R_drewN | apply Kd.R_drew)); exact HO_200002.out) hb); have n3_ := Aside0.mk (Kd.R_below (by (with_reducible repeat (first | apply Kd.R_alloc | apply Kd.R_drewN | apply Kd.R_drew)); exact HO205.out) hb); have n4_ := Aside0.mk (blk_below (g := gb173) (o := .cells #[.string a0_0, .string a0_1, .slice A0_2 l0_2.length c0_2] 24 (0, 0)) (by (with_reducible repeat (first | refine blk_drewN ?_ _ | refine blk_drew ?_ | refine blk_alloc ?_ _)); exact BK173.out) hb); have n5_ := Aside0.mk (blk_below (g := gb186) (o := .cells #[.string t180, .string t181, .slice Ao25 t182.length co25] 28 (0, 0)) (by (with_reducible repeat (first | refine blk_drewN ?_ _ | refine blk_drew ?_ | refine blk_alloc ?_ _)); exact BK186.out) hb); have n6_ := Aside0.mk (blk_below (g := gb192) (o := .cells #[.string t187, .string t188, .slice Ao32 t189.length co32] 28 (0, 0)) (by (with_reducible repeat (first | refine blk_drewN ?_ _ | refine blk_drew ?_ | refine blk_alloc ?_ _)); exact BK192.out) hb); have n7_ := Aside0.mk (blk_below (g := gb199) (o := .cells #[.string t193, .string t194, .slice Ao39 t195.length co39] 28 (0, 0)) (by (with_reducible repeat (first | refine blk_drewN ?_ _ | refine blk_drew ?_ | refine blk_alloc ?_ _)); exact BK199.out) hb); have n8_ := Aside0.mk (below_step (by repeat (first | (with_reducible first | exact HB.out | apply below_alloc | apply pw_below_drewN | apply below_drew1 | refine below_set ?_ GE173.out | refine below_set ?_ GE186.out | refine below_set ?_ GE192.out | refine below_set ?_ GE199.out) | exact HB.out)) hb); clear HO_187002; clear HO_193002; clear HO_200002; clear HO205; clear BK173; clear BK186; clear BK192; clear BK199; clear HB; have HO_187002 := n0_; have HO_193002 := n1_; have HO_200002 := n2_; have HO205 := n3_; have BK173 := n4_; have BK186 := n5_; have BK192 := n6_; have BK199 := n7_; have HB := n8_; clear n0_ n1_ n2_ n3_ n4_ n5_ n6_ n7_ n8_; (try clear hb); (try clear hb2); (try clear hk); (try clear hi)))
                    go_meet
                    case rel => exact ⟨_, (true), (by first | rfl | (simp; done) | (simp [*]; done)), H', ⟨by have := HJ13.out; first | omega | exact Nat.le_refl _⟩, ⟨by (with_reducible repeat (first | apply Kd.R_alloc | apply Kd.R_drewN | apply Kd.R_drew)); exact Kd.R_mono HO_187002.out (fun _ hk => ⟨hk.1, hk.2.1⟩)⟩, ⟨by (with_reducible repeat (first | apply Kd.R_alloc | apply Kd.R_drewN | apply Kd.R_drew)); exact Kd.R_mono HO_193002.out (fun _ hk => ⟨hk.1.1, hk.1.2⟩)⟩, ⟨by (with_reducible repeat (first | apply Kd.R_alloc | apply Kd.R_drewN | apply Kd.R_drew)); exact Kd.R_mono HO_200002.out (fun _ hk => ⟨hk.1, hk.2.1⟩)⟩, ⟨by (with_reducible repeat (first | refine blk_drewN ?_ _ | refine blk_drew ?_ | refine blk_alloc ?_ _)); exact BK173.out⟩, ⟨by (with_reducible repeat (first | refine blk_drewN ?_ _ | refine blk_drew ?_ | refine blk_alloc ?_ _)); exact BK186.out⟩, ⟨by (with_reducible repeat (first | refine blk_drewN ?_ _ | refine blk_drew ?_ | refine blk_alloc ?_ _)); exact BK192.out⟩, ⟨by (with_reducible repeat (first | refine blk_drewN ?_ _ | refine blk_drew ?_ | refine blk_alloc ?_ _)); exact BK199.out⟩, ⟨by repeat (first | (with_reducible first | exact HB.out | apply below_alloc | apply pw_below_drewN | apply below_drew1 | refine below_set ?_ GE173.out | refine below_set ?_ GE186.out | refine below_set ?_ GE192.out | refine below_set ?_ GE199.out) | exact HB.out)⟩⟩
              case rest =>
                clear HC63
                try clear c1
                try clear c2
                try clear p2
                try clear c3
                try clear c3b0
                try clear c3b1
                try clear c4
                try clear c5
                try clear c6
                try clear c6b0
                try clear c7
                try clear c8
                try clear c10
                try clear c12
                try clear c14
                try clear c17
                try clear c23
                try clear c25
                try clear c26
                try clear c29
                try clear c30
                try clear c35
                try clear c36
                try clear c37
                try clear c41
                try clear c42
                try clear c43
                try clear c44
                try clear c46
                try clear c47
                try clear c50
                try clear c51
                try clear c52
                try clear c54
                try clear c55
                try clear c58
                try clear c61
                try clear c68
                try clear c69
                try clear c70
                try clear c73
                try clear c73b0
                try clear c75
                try clear c76
                try clear c77
                try clear c78
                try clear c80
                try clear c81
                try clear c84
                try clear c85
                try clear c86
                try clear c88
                try clear c89
                try clear hcz16_0
                try clear hcz16_1
                try clear hcz16_2
                try clear hcz18_0
                try clear hcz18_1
                try clear hcz18_2
                try clear hcz24_0
                try clear hcz24_1
                try clear hcz24_2
                try clear hcz26_0
                try clear hcz26_1
                try clear hcz26_2
                try clear hcz31_0
                try clear hcz31_1
                try clear hcz31_2
                try clear hcz38_0
                try clear hcz38_1
                try clear hcz38_2
                try clear hcz45_0
                try clear hcz45_1
                try clear hcz45_2
                try clear hcz48_0
                try clear hcz48_1
                try clear hcz48_2
                try clear hcz53_0
                try clear hcz53_1
                try clear hcz53_2
                try clear hcz56_0
                try clear hcz56_1
                try clear hcz56_2
                try clear hcz71_0
                try clear hcz71_1
                try clear hcz71_2
                try clear hcz79_0
                try clear hcz79_1
                try clear hcz79_2
                try clear hcz82_0
                try clear hcz82_1
                try clear hcz82_2
                try clear hcz87_0
                try clear hcz87_1
                try clear hcz87_2
                try clear hcz8_0
                try clear hcz8_1
                try clear hcz8_2
                try clear hcz90_0
                try clear hcz90_1
                try clear hcz90_2
                try clear hfz16_0
                try clear hfz16_1
                try clear hfz16_2
                try clear hfz18_0
                try clear hfz18_1
                try clear hfz18_2
                try clear hfz24_0
                try clear hfz24_1
                try clear hfz24_2
                try clear hfz26_0
                try clear hfz26_1
                try clear hfz26_2
                try clear hfz31_0
                try clear hfz31_1
                try clear hfz31_2
                try clear hfz38_0
                try clear hfz38_1
                try clear hfz38_2
                try clear hfz45_0
                try clear hfz45_1
                try clear hfz45_2
                try clear hfz48_0
                try clear hfz48_1
                try clear hfz48_2
                try clear hfz53_0
                try clear hfz53_1
                try clear hfz53_2
                try clear hfz56_0
                try clear hfz56_1
                try clear hfz56_2
                try clear hfz71_0
                try clear hfz71_1
                try clear hfz71_2
                try clear hfz79_0
                try clear hfz79_1
                try clear hfz79_2
                try clear hfz82_0
                try clear hfz82_1
                try clear hfz82_2
                try clear hfz87_0
                try clear hfz87_1
                try clear hfz87_2
                try clear hfz8_0
                try clear hfz8_1
                try clear hfz8_2
                try clear hfz90_0
                try clear hfz90_1
                try clear hfz90_2
                try clear p2
                obtain ⟨kq, x68_62, rfl, HA, HJ62, HO_187002, HO_193002, HO_200002, BK173, BK186, BK192, BK199, HB⟩ := hcut
                have hl193002_62 := (Kd.R_reads' HO_193002.out).1
                rw [hl193002_62] at HO_193002
                (try simp only [hl193002_62])
                (try simp only [hl193002_62] at BK173)
                (try simp only [hl193002_62] at BK186)
                (try simp only [hl193002_62] at BK192)
                (try simp only [hl193002_62] at BK199)
                (try simp only [hl193002_62] at HO_187002)
                (try simp only [hl193002_62] at HO_200002)
                cases kq with
                | zero => exact absurd HA.out (by simp [laws_FnExactAddWord.j1])
                | succ kj62 =>
                  have H := HA.out
                  clear HA
                  simp only [laws_FnExactAddWord.j1] at H
                  by_cases c92 : x68_62 = true
                  · subst c92
                    have H1 : (some false) = some r := by rw [if_pos rfl] at H; exact H
                    clear H
                    have H := H1
                    clear H1
                    obtain rfl := Option.some.inj H
                    go_wp2
                    go_ret
                    exact ⟨by first | rfl | (simp [errW_none, errW_some] <;> rfl) | (simp [*, errW_none, errW_some] <;> rfl), by repeat (first | (with_reducible first | exact HB.out | apply below_alloc | apply pw_below_drewN | apply below_drew1 | refine below_set ?_ GE173.out | refine below_set ?_ GE186.out | refine below_set ?_ GE192.out | refine below_set ?_ GE199.out) | exact HB.out)⟩
                  · replace c92 := Bool.eq_false_iff.mpr c92
                    subst c92
                    have H1 : ((laws_markScheme.f kj62 t193 t194 t195 1).bind fun bt210 => ((laws_heldScheme.f kj62 t193 t194 bt210.2 1).bind fun t212 => (if t212 < 0 then (some false) else (if t212 = bt210.1 then ((laws_toScheme.f kj62 a0_0 a0_1 l0_2).bind fun bt213 => ((impl_AddWord.f kj62 bt213.1 bt213.2.1 bt213.2.2 a1).bind fun bt218 => ((laws_eqScheme.f kj62 bt218.1 bt218.2.1 bt218.2.2.1 t180 t181 t182).bind fun t225 => (if t225 = true then (laws_FnExactAddWord.j2 kj62 bt210.1 (bt218.2.2.2 != t185) t193 t194 bt210.2) else (laws_FnExactAddWord.j2 kj62 bt210.1 true t193 t194 bt210.2))))) else (some false))))) = some r := by rw [if_neg (show ¬ (false = true) by decide)] at H; exact H
                    clear H
                    have H := H1
                    clear H1
                    replace H := Option.bind_eq_some_iff.mp H
                    obtain ⟨⟨t210, t211⟩, A930, H⟩ := H
                    replace H : ((laws_heldScheme.f kj62 t193 t194 t211 1).bind fun t212 => (if t212 < 0 then (some false) else (if t212 = t210 then ((laws_toScheme.f kj62 a0_0 a0_1 l0_2).bind fun bt213 => ((impl_AddWord.f kj62 bt213.1 bt213.2.1 bt213.2.2 a1).bind fun bt218 => ((laws_eqScheme.f kj62 bt218.1 bt218.2.1 bt218.2.2.1 t180 t181 t182).bind fun t225 => (if t225 = true then (laws_FnExactAddWord.j2 kj62 t210 (bt218.2.2.2 != t185) t193 t194 t211) else (laws_FnExactAddWord.j2 kj62 t210 true t193 t194 t211))))) else (some false)))) = some r := H
                    have A93 := Aside0.mk A930
                    clear A930
                    replace H := Option.bind_eq_some_iff.mp H
                    obtain ⟨t212, A940, H⟩ := H
                    replace H : (if t212 < 0 then (some false) else (if t212 = t210 then ((laws_toScheme.f kj62 a0_0 a0_1 l0_2).bind fun bt213 => ((impl_AddWord.f kj62 bt213.1 bt213.2.1 bt213.2.2 a1).bind fun bt218 => ((laws_eqScheme.f kj62 bt218.1 bt218.2.1 bt218.2.2.1 t180 t181 t182).bind fun t225 => (if t225 = true then (laws_FnExactAddWord.j2 kj62 t210 (bt218.2.2.2 != t185) t193 t194 t211) else (laws_FnExactAddWord.j2 kj62 t210 true t193 t194 t211))))) else (some false))) = some r := H
                    have A94 := Aside0.mk A940
                    clear A940
                    by_cases c95 : t212 < 0
                    · rw [if_pos c95] at H
                      have c95b0 : decide (t212 < 0) = true := decide_eq_true c95
                      clear c95
                      obtain rfl := Option.some.inj H
                      have hnb96 := NB199_173.out
                      have hnc96 := NB173_199.out
                      have hnb97 := NB199_186.out
                      have hnc97 := NB186_199.out
                      have hnb98 := NB199_192.out
                      have hnc98 := NB192_199.out
                      have hcz99_0 : wc.cell? ⟨gb199, 0, none⟩ = some (.string t193) := (blk_cell BK199.out 0).trans rfl
                      have hcz99_1 : wc.cell? ⟨gb199, 1, none⟩ = some (.string t194) := (blk_cell BK199.out 1).trans rfl
                      have hcz99_2 : wc.cell? ⟨gb199, 2, none⟩ = some (.slice Ao39 t195.length co39) := (blk_cell BK199.out 2).trans rfl
                      have hfz99_0 := blk_frozen BK199.out 0
                      have hfz99_1 := blk_frozen BK199.out 1
                      have hfz99_2 := blk_frozen BK199.out 2
                      go_wp2_with (first | ((with_reducible refine gate_callee (f := 17) rfl ?_); refine goesL_ (some 71) rfl rfl Tryd.func17 (by kernel_rfl) rfl #[.agg #[.string t193, .string t194, .slice Ao39 t195.length co39], .int .i64 1] rfl (by (try simp only [List.map_toArray, List.map_cons, List.map_nil]); first | done | rfl | (simp only [List.length_drop, List.length_take]; rfl)) ?_; (with_reducible refine (laws_markScheme.calls kj62 t193 t194 (fun k_ => some k_ = (.slice Ao39 t195.length co39 : Value).ownBlock) (.slice Ao39 t195.length co39) t195 1 t210 t211 w _ ?side1 ?side2 A93.out).mono ?_); (case side1 => repeat (first | (with_reducible first | exact HB.out | apply below_alloc | apply pw_below_drewN | apply below_drew1 | refine below_set ?_ GE173.out | refine below_set ?_ GE186.out | refine below_set ?_ GE192.out | refine below_set ?_ GE199.out) | exact HB.out)); (case side2 => exact Kd.R_tight rfl HO_200002.out); rintro e w100 ⟨rfl, hy0, hb, hkp⟩; refine ⟨_, rfl, ?_⟩; have n0_ := Aside0.mk (Kd.R_mono (ok' := fun k_ => some k_ ≠ (.slice Ao32 t208.length co32 : Value).ownBlock ∧ some k_ ≠ (.slice Ao39 t195.length co39 : Value).ownBlock) (Kd.R_keptB (HO_187002.out) hkp (fun k_ hk_ hs_ => (hk_.2) hs_)) (fun k_ hk_ => ⟨hk_.1.1, hk_.1.2⟩)); have n1_ := Aside0.mk (Kd.R_mono (ok' := fun k_ => some k_ ≠ (.slice Ao25 t182.length co25 : Value).ownBlock ∧ some k_ ≠ (.slice Ao39 t195.length co39 : Value).ownBlock) (Kd.R_keptB (HO_193002.out) hkp (fun k_ hk_ hs_ => (hk_.2) hs_)) (fun k_ hk_ => ⟨hk_.1.1, hk_.1.2⟩)); have n2_ := Aside0.mk (Kd.R_reok rfl hy0 (fun k_ e_ => HO_200002.out.1 k_ e_)); have n3_ := Aside0.mk (blk_kept (by (with_reducible repeat (first | refine blk_drewN ?_ _ | refine blk_drew ?_ | refine blk_alloc ?_ _)); exact BK173.out) hkp (fun hs_ => (fun e_ => (Kd.R_ne HO_200002.out BK173.out (by decide)) e_) hs_)); have n4_ := Aside0.mk (blk_kept (by (with_reducible repeat (first | refine blk_drewN ?_ _ | refine blk_drew ?_ | refine blk_alloc ?_ _)); exact BK186.out) hkp (fun hs_ => (fun e_ => (Kd.R_ne HO_200002.out BK186.out (by decide)) e_) hs_)); have n5_ := Aside0.mk (blk_kept (by (with_reducible repeat (first | refine blk_drewN ?_ _ | refine blk_drew ?_ | refine blk_alloc ?_ _)); exact BK192.out) hkp (fun hs_ => (fun e_ => (Kd.R_ne HO_200002.out BK192.out (by decide)) e_) hs_)); have n6_ := Aside0.mk (blk_kept (by (with_reducible repeat (first | refine blk_drewN ?_ _ | refine blk_drew ?_ | refine blk_alloc ?_ _)); exact BK199.out) hkp (fun hs_ => (fun e_ => (Kd.R_ne HO_200002.out BK199.out (by decide)) e_) hs_)); have n7_ := Aside0.mk (hb); clear HO_187002; clear HO_193002; clear HO_200002; clear BK173; clear BK186; clear BK192; clear BK199; clear HB; have HO_187002 := n0_; have HO_193002 := n1_; have HO_200002 := n2_; have BK173 := n3_; have BK186 := n4_; have BK192 := n5_; have BK199 := n6_; have HB := n7_; clear n0_ n1_ n2_ n3_ n4_ n5_ n6_ n7_; (try clear hb); (try clear hkp); (try clear hy0); have hcz101_0 : w100.cell? ⟨gb199, 0, none⟩ = some (.string t193) := (blk_cell BK199.out 0).trans rfl; have hcz101_1 : w100.cell? ⟨gb199, 1, none⟩ = some (.string t194) := (blk_cell BK199.out 1).trans rfl; have hcz101_2 : w100.cell? ⟨gb199, 2, none⟩ = some (.slice Ao39 t195.length co39) := (blk_cell BK199.out 2).trans rfl; have hfz101_0 := blk_frozen BK199.out 0; have hfz101_1 := blk_frozen BK199.out 1; have hfz101_2 := blk_frozen BK199.out 2) | ((with_reducible refine gate_callee (f := 18) rfl ?_); refine goesL_ (some 74) rfl rfl Tryd.func18 (by kernel_rfl) rfl #[.agg #[.string t193, .string t194, .slice Ao39 t211.length co39], .int .i64 1] rfl (by (try simp only [List.map_toArray, List.map_cons, List.map_nil]); first | done | (rw [show t211.length = t195.length from (Kd.R_reads' HO_200002.out).1.symm] <;> rfl) | rfl | (simp only [List.length_drop, List.length_take]; rfl)) ?_; (with_reducible refine (laws_heldScheme.calls kj62 t193 t194 _ _ t211 1 t212 _ ?side1 ?side2 A94.out).mono ?_); (case side1 => repeat (first | exact (Kd.R_reads' HO_200002.out).2.2 | (with_reducible refine Kd.C_alloc ?_ _) | (with_reducible refine Kd.C_drewN ?_ _) | (with_reducible refine Kd.C_drew ?_))); (case side2 => rw [show t211.length = t195.length from (Kd.R_reads' HO_200002.out).1.symm]; exact (Kd.R_reads' HO_200002.out).2.1); rintro e w102 ⟨rfl, hb⟩; refine ⟨_, rfl, ?_⟩; have n0_ := Aside0.mk (Kd.R_below (by (with_reducible repeat (first | apply Kd.R_alloc | apply Kd.R_drewN | apply Kd.R_drew)); exact HO_187002.out) hb); have n1_ := Aside0.mk (Kd.R_below (by (with_reducible repeat (first | apply Kd.R_alloc | apply Kd.R_drewN | apply Kd.R_drew)); exact HO_193002.out) hb); have n2_ := Aside0.mk (Kd.R_below (by (with_reducible repeat (first | apply Kd.R_alloc | apply Kd.R_drewN | apply Kd.R_drew)); exact HO_200002.out) hb); have n3_ := Aside0.mk (blk_below (g := gb173) (o := .cells #[.string a0_0, .string a0_1, .slice A0_2 l0_2.length c0_2] 24 (0, 0)) (by (with_reducible repeat (first | refine blk_drewN ?_ _ | refine blk_drew ?_ | refine blk_alloc ?_ _)); exact BK173.out) hb); have n4_ := Aside0.mk (blk_below (g := gb186) (o := .cells #[.string t180, .string t181, .slice Ao25 t182.length co25] 28 (0, 0)) (by (with_reducible repeat (first | refine blk_drewN ?_ _ | refine blk_drew ?_ | refine blk_alloc ?_ _)); exact BK186.out) hb); have n5_ := Aside0.mk (blk_below (g := gb192) (o := .cells #[.string t187, .string t188, .slice Ao32 t208.length co32] 28 (0, 0)) (by (with_reducible repeat (first | refine blk_drewN ?_ _ | refine blk_drew ?_ | refine blk_alloc ?_ _)); exact BK192.out) hb); have n6_ := Aside0.mk (blk_below (g := gb199) (o := .cells #[.string t193, .string t194, .slice Ao39 t195.length co39] 28 (0, 0)) (by (with_reducible repeat (first | refine blk_drewN ?_ _ | refine blk_drew ?_ | refine blk_alloc ?_ _)); exact BK199.out) hb); have n7_ := Aside0.mk (below_step (by repeat (first | (with_reducible first | exact HB.out | apply below_alloc | apply pw_below_drewN | apply below_drew1 | refine below_set ?_ GE173.out | refine below_set ?_ GE186.out | refine below_set ?_ GE192.out | refine below_set ?_ GE199.out) | exact HB.out)) hb); clear HO_187002; clear HO_193002; clear HO_200002; clear BK173; clear BK186; clear BK192; clear BK199; clear HB; have HO_187002 := n0_; have HO_193002 := n1_; have HO_200002 := n2_; have BK173 := n3_; have BK186 := n4_; have BK192 := n5_; have BK199 := n6_; have HB := n7_; clear n0_ n1_ n2_ n3_ n4_ n5_ n6_ n7_; (try clear hb); (try clear hb2); (try clear hk); (try clear hi)))
                      go_ret
                      exact ⟨by first | rfl | (simp [errW_none, errW_some] <;> rfl) | (simp [*, errW_none, errW_some] <;> rfl), by repeat (first | (with_reducible first | exact HB.out | apply below_alloc | apply pw_below_drewN | apply below_drew1 | refine below_set ?_ GE173.out | refine below_set ?_ GE186.out | refine below_set ?_ GE192.out | refine below_set ?_ GE199.out) | exact HB.out)⟩
                    · rw [if_neg c95] at H
                      have c95b0 : decide (t212 < 0) = false := decide_eq_false c95
                      clear c95
                      by_cases c103 : t212 = t210
                      · rw [if_pos c103] at H
                        have c103b0 : (t212 == t210) = true := beq_iff_eq.mpr c103
                        have c103b1 : (t212 != t210) = false := bne_eq_false_iff_eq.mpr c103
                        clear c103
                        replace H := Option.bind_eq_some_iff.mp H
                        obtain ⟨⟨t213, t214, t215⟩, A1040, H⟩ := H
                        replace H : ((impl_AddWord.f kj62 t213 t214 t215 a1).bind fun bt218 => ((laws_eqScheme.f kj62 bt218.1 bt218.2.1 bt218.2.2.1 t180 t181 t182).bind fun t225 => (if t225 = true then (laws_FnExactAddWord.j2 kj62 t210 (bt218.2.2.2 != t185) t193 t194 t211) else (laws_FnExactAddWord.j2 kj62 t210 true t193 t194 t211)))) = some r := H
                        have A104 := Aside0.mk A1040
                        clear A1040
                        replace H := Option.bind_eq_some_iff.mp H
                        obtain ⟨⟨t218, t219, t220, t223⟩, A1050, H⟩ := H
                        replace H : ((laws_eqScheme.f kj62 t218 t219 t220 t180 t181 t182).bind fun t225 => (if t225 = true then (laws_FnExactAddWord.j2 kj62 t210 (t223 != t185) t193 t194 t211) else (laws_FnExactAddWord.j2 kj62 t210 true t193 t194 t211))) = some r := H
                        have A105 := Aside0.mk A1050
                        clear A1050
                        have HC106 := Aside0.mk H
                        clear H
                        have hnb107 := NB199_173.out
                        have hnc107 := NB173_199.out
                        have hnb108 := NB199_186.out
                        have hnc108 := NB186_199.out
                        have hnb109 := NB199_192.out
                        have hnc109 := NB192_199.out
                        have hcz110_0 : wc.cell? ⟨gb199, 0, none⟩ = some (.string t193) := (blk_cell BK199.out 0).trans rfl
                        have hcz110_1 : wc.cell? ⟨gb199, 1, none⟩ = some (.string t194) := (blk_cell BK199.out 1).trans rfl
                        have hcz110_2 : wc.cell? ⟨gb199, 2, none⟩ = some (.slice Ao39 t195.length co39) := (blk_cell BK199.out 2).trans rfl
                        have hfz110_0 := blk_frozen BK199.out 0
                        have hfz110_1 := blk_frozen BK199.out 1
                        have hfz110_2 := blk_frozen BK199.out 2
                        go_upto_region 27 with (first | ((with_reducible refine gate_callee (f := 17) rfl ?_); refine goesL_ (some 71) rfl rfl Tryd.func17 (by kernel_rfl) rfl #[.agg #[.string t193, .string t194, .slice Ao39 t195.length co39], .int .i64 1] rfl (by (try simp only [List.map_toArray, List.map_cons, List.map_nil]); first | done | rfl | (simp only [List.length_drop, List.length_take]; rfl)) ?_; (with_reducible refine (laws_markScheme.calls kj62 t193 t194 (fun k_ => some k_ = (.slice Ao39 t195.length co39 : Value).ownBlock) (.slice Ao39 t195.length co39) t195 1 t210 t211 w _ ?side1 ?side2 A93.out).mono ?_); (case side1 => repeat (first | (with_reducible first | exact HB.out | apply below_alloc | apply pw_below_drewN | apply below_drew1 | refine below_set ?_ GE173.out | refine below_set ?_ GE186.out | refine below_set ?_ GE192.out | refine below_set ?_ GE199.out) | exact HB.out)); (case side2 => exact Kd.R_tight rfl HO_200002.out); rintro e w111 ⟨rfl, hy0, hb, hkp⟩; refine ⟨_, rfl, ?_⟩; have n0_ := Aside0.mk (Kd.R_mono (ok' := fun k_ => some k_ ≠ (.slice Ao32 t208.length co32 : Value).ownBlock ∧ some k_ ≠ (.slice Ao39 t195.length co39 : Value).ownBlock) (Kd.R_keptB (HO_187002.out) hkp (fun k_ hk_ hs_ => (hk_.2) hs_)) (fun k_ hk_ => ⟨hk_.1.1, hk_.1.2⟩)); have n1_ := Aside0.mk (Kd.R_mono (ok' := fun k_ => some k_ ≠ (.slice Ao25 t182.length co25 : Value).ownBlock ∧ some k_ ≠ (.slice Ao39 t195.length co39 : Value).ownBlock) (Kd.R_keptB (HO_193002.out) hkp (fun k_ hk_ hs_ => (hk_.2) hs_)) (fun k_ hk_ => ⟨hk_.1.1, hk_.1.2⟩)); have n2_ := Aside0.mk (Kd.R_reok rfl hy0 (fun k_ e_ => HO_200002.out.1 k_ e_)); have n3_ := Aside0.mk (blk_kept (by (with_reducible repeat (first | refine blk_drewN ?_ _ | refine blk_drew ?_ | refine blk_alloc ?_ _)); exact BK173.out) hkp (fun hs_ => (fun e_ => (Kd.R_ne HO_200002.out BK173.out (by decide)) e_) hs_)); have n4_ := Aside0.mk (blk_kept (by (with_reducible repeat (first | refine blk_drewN ?_ _ | refine blk_drew ?_ | refine blk_alloc ?_ _)); exact BK186.out) hkp (fun hs_ => (fun e_ => (Kd.R_ne HO_200002.out BK186.out (by decide)) e_) hs_)); have n5_ := Aside0.mk (blk_kept (by (with_reducible repeat (first | refine blk_drewN ?_ _ | refine blk_drew ?_ | refine blk_alloc ?_ _)); exact BK192.out) hkp (fun hs_ => (fun e_ => (Kd.R_ne HO_200002.out BK192.out (by decide)) e_) hs_)); have n6_ := Aside0.mk (blk_kept (by (with_reducible repeat (first | refine blk_drewN ?_ _ | refine blk_drew ?_ | refine blk_alloc ?_ _)); exact BK199.out) hkp (fun hs_ => (fun e_ => (Kd.R_ne HO_200002.out BK199.out (by decide)) e_) hs_)); have n7_ := Aside0.mk (hb); clear HO_187002; clear HO_193002; clear HO_200002; clear BK173; clear BK186; clear BK192; clear BK199; clear HB; have HO_187002 := n0_; have HO_193002 := n1_; have HO_200002 := n2_; have BK173 := n3_; have BK186 := n4_; have BK192 := n5_; have BK199 := n6_; have HB := n7_; clear n0_ n1_ n2_ n3_ n4_ n5_ n6_ n7_; (try clear hb); (try clear hkp); (try clear hy0); have hcz112_0 : w111.cell? ⟨gb199, 0, none⟩ = some (.string t193) := (blk_cell BK199.out 0).trans rfl; have hcz112_1 : w111.cell? ⟨gb199, 1, none⟩ = some (.string t194) := (blk_cell BK199.out 1).trans rfl; have hcz112_2 : w111.cell? ⟨gb199, 2, none⟩ = some (.slice Ao39 t195.length co39) := (blk_cell BK199.out 2).trans rfl; have hfz112_0 := blk_frozen BK199.out 0; have hfz112_1 := blk_frozen BK199.out 1; have hfz112_2 := blk_frozen BK199.out 2) | ((with_reducible refine gate_callee (f := 18) rfl ?_); refine goesL_ (some 74) rfl rfl Tryd.func18 (by kernel_rfl) rfl #[.agg #[.string t193, .string t194, .slice Ao39 t211.length co39], .int .i64 1] rfl (by (try simp only [List.map_toArray, List.map_cons, List.map_nil]); first | done | (rw [show t211.length = t195.length from (Kd.R_reads' HO_200002.out).1.symm] <;> rfl) | rfl | (simp only [List.length_drop, List.length_take]; rfl)) ?_; (with_reducible refine (laws_heldScheme.calls kj62 t193 t194 _ _ t211 1 t212 _ ?side1 ?side2 A94.out).mono ?_); (case side1 => repeat (first | exact (Kd.R_reads' HO_200002.out).2.2 | (with_reducible refine Kd.C_alloc ?_ _) | (with_reducible refine Kd.C_drewN ?_ _) | (with_reducible refine Kd.C_drew ?_))); (case side2 => rw [show t211.length = t195.length from (Kd.R_reads' HO_200002.out).1.symm]; exact (Kd.R_reads' HO_200002.out).2.1); rintro e w113 ⟨rfl, hb⟩; refine ⟨_, rfl, ?_⟩; have n0_ := Aside0.mk (Kd.R_below (by (with_reducible repeat (first | apply Kd.R_alloc | apply Kd.R_drewN | apply Kd.R_drew)); exact HO_187002.out) hb); have n1_ := Aside0.mk (Kd.R_below (by (with_reducible repeat (first | apply Kd.R_alloc | apply Kd.R_drewN | apply Kd.R_drew)); exact HO_193002.out) hb); have n2_ := Aside0.mk (Kd.R_below (by (with_reducible repeat (first | apply Kd.R_alloc | apply Kd.R_drewN | apply Kd.R_drew)); exact HO_200002.out) hb); have n3_ := Aside0.mk (blk_below (g := gb173) (o := .cells #[.string a0_0, .string a0_1, .slice A0_2 l0_2.length c0_2] 24 (0, 0)) (by (with_reducible repeat (first | refine blk_drewN ?_ _ | refine blk_drew ?_ | refine blk_alloc ?_ _)); exact BK173.out) hb); have n4_ := Aside0.mk (blk_below (g := gb186) (o := .cells #[.string t180, .string t181, .slice Ao25 t182.length co25] 28 (0, 0)) (by (with_reducible repeat (first | refine blk_drewN ?_ _ | refine blk_drew ?_ | refine blk_alloc ?_ _)); exact BK186.out) hb); have n5_ := Aside0.mk (blk_below (g := gb192) (o := .cells #[.string t187, .string t188, .slice Ao32 t208.length co32] 28 (0, 0)) (by (with_reducible repeat (first | refine blk_drewN ?_ _ | refine blk_drew ?_ | refine blk_alloc ?_ _)); exact BK192.out) hb); have n6_ := Aside0.mk (blk_below (g := gb199) (o := .cells #[.string t193, .string t194, .slice Ao39 t195.length co39] 28 (0, 0)) (by (with_reducible repeat (first | refine blk_drewN ?_ _ | refine blk_drew ?_ | refine blk_alloc ?_ _)); exact BK199.out) hb); have n7_ := Aside0.mk (below_step (by repeat (first | (with_reducible first | exact HB.out | apply below_alloc | apply pw_below_drewN | apply below_drew1 | refine below_set ?_ GE173.out | refine below_set ?_ GE186.out | refine below_set ?_ GE192.out | refine below_set ?_ GE199.out) | exact HB.out)) hb); clear HO_187002; clear HO_193002; clear HO_200002; clear BK173; clear BK186; clear BK192; clear BK199; clear HB; have HO_187002 := n0_; have HO_193002 := n1_; have HO_200002 := n2_; have BK173 := n3_; have BK186 := n4_; have BK192 := n5_; have BK199 := n6_; have HB := n7_; clear n0_ n1_ n2_ n3_ n4_ n5_ n6_ n7_; (try clear hb); (try clear hb2); (try clear hk); (try clear hi); have hnb114 := NB173_186.out; have hnc114 := NB186_173.out; have hnb115 := NB173_192.out; have hnc115 := NB192_173.out; have hcz116_0 : w113.cell? ⟨gb173, 0, none⟩ = some (.string a0_0) := (blk_cell BK173.out 0).trans rfl; have hcz116_1 : w113.cell? ⟨gb173, 1, none⟩ = some (.string a0_1) := (blk_cell BK173.out 1).trans rfl; have hcz116_2 : w113.cell? ⟨gb173, 2, none⟩ = some (.slice A0_2 l0_2.length c0_2) := (blk_cell BK173.out 2).trans rfl; have hfz116_0 := blk_frozen BK173.out 0; have hfz116_1 := blk_frozen BK173.out 1; have hfz116_2 := blk_frozen BK173.out 2) | ((with_reducible refine gate_callee (f := 12) rfl ?_); refine goesL_ (some 82) rfl rfl Tryd.func12 (by kernel_rfl) rfl #[.agg #[.string a0_0, .string a0_1, .slice A0_2 l0_2.length c0_2]] rfl (by (try simp only [List.map_toArray, List.map_cons, List.map_nil]); first | done | rfl | (simp only [List.length_drop, List.length_take]; rfl)) ?_; (with_reducible refine (laws_toScheme.calls kj62 a0_0 a0_1 _ _ l0_2 t213 t214 t215 _ ?side1 ?side2 A104.out).mono ?_); (case side1 => repeat (first | exact (Kd.C_below HR0_2.out HB.out) | (with_reducible refine Kd.C_alloc ?_ _) | (with_reducible refine Kd.C_drewN ?_ _) | (with_reducible refine Kd.C_drew ?_))); (case side2 => exact HC0_2.out); rintro e w117 ⟨v216, rfl, ho0, hb⟩; refine ⟨_, rfl, ?_⟩; have n0_ := Aside0.mk (Kd.R_elder' (by (with_reducible repeat (first | apply Kd.R_alloc | apply Kd.R_drewN | apply Kd.R_drew)); exact HO_187002.out) (Kd.R_base ho0) hb); have n1_ := Aside0.mk (Kd.R_elder' (by (with_reducible repeat (first | apply Kd.R_alloc | apply Kd.R_drewN | apply Kd.R_drew)); exact HO_193002.out) (Kd.R_base ho0) hb); have n2_ := Aside0.mk (Kd.R_elder' (by (with_reducible repeat (first | apply Kd.R_alloc | apply Kd.R_drewN | apply Kd.R_drew)); exact HO_200002.out) (Kd.R_base ho0) hb); have n3_ := Aside0.mk (Kd.R_lower (Kd.R_new' (Kd.R_new' (Kd.R_new' ho0 (Kd.R_lt (by (with_reducible repeat (first | apply Kd.R_alloc | apply Kd.R_drewN | apply Kd.R_drew)); exact HO_187002.out))) (Kd.R_lt (by (with_reducible repeat (first | apply Kd.R_alloc | apply Kd.R_drewN | apply Kd.R_drew)); exact HO_193002.out))) (Kd.R_lt (by (with_reducible repeat (first | apply Kd.R_alloc | apply Kd.R_drewN | apply Kd.R_drew)); exact HO_200002.out))) (below_size (by repeat (first | (with_reducible first | exact HB.out | apply below_alloc | apply pw_below_drewN | apply below_drew1 | refine below_set ?_ GE173.out | refine below_set ?_ GE186.out | refine below_set ?_ GE192.out | refine below_set ?_ GE199.out) | exact HB.out)))); have n4_ := Aside0.mk (blk_below (g := gb173) (o := .cells #[.string a0_0, .string a0_1, .slice A0_2 l0_2.length c0_2] 24 (0, 0)) (by (with_reducible repeat (first | refine blk_drewN ?_ _ | refine blk_drew ?_ | refine blk_alloc ?_ _)); exact BK173.out) hb); have n5_ := Aside0.mk (blk_below (g := gb186) (o := .cells #[.string t180, .string t181, .slice Ao25 t182.length co25] 28 (0, 0)) (by (with_reducible repeat (first | refine blk_drewN ?_ _ | refine blk_drew ?_ | refine blk_alloc ?_ _)); exact BK186.out) hb); have n6_ := Aside0.mk (blk_below (g := gb192) (o := .cells #[.string t187, .string t188, .slice Ao32 t208.length co32] 28 (0, 0)) (by (with_reducible repeat (first | refine blk_drewN ?_ _ | refine blk_drew ?_ | refine blk_alloc ?_ _)); exact BK192.out) hb); have n7_ := Aside0.mk (blk_below (g := gb199) (o := .cells #[.string t193, .string t194, .slice Ao39 t195.length co39] 28 (0, 0)) (by (with_reducible repeat (first | refine blk_drewN ?_ _ | refine blk_drew ?_ | refine blk_alloc ?_ _)); exact BK199.out) hb); have n8_ := Aside0.mk (below_step (by repeat (first | (with_reducible first | exact HB.out | apply below_alloc | apply pw_below_drewN | apply below_drew1 | refine below_set ?_ GE173.out | refine below_set ?_ GE186.out | refine below_set ?_ GE192.out | refine below_set ?_ GE199.out) | exact HB.out)) hb); clear HO_187002; clear HO_193002; clear HO_200002; clear BK173; clear BK186; clear BK192; clear BK199; clear HB; have HO_187002 := n0_; have HO_193002 := n1_; have HO_200002 := n2_; have HO217 := n3_; have BK173 := n4_; have BK186 := n5_; have BK192 := n6_; have BK199 := n7_; have HB := n8_; clear n0_ n1_ n2_ n3_ n4_ n5_ n6_ n7_ n8_; (try clear hb); (try clear hb2); (try clear hk); (try clear hi); (try clear ho0); obtain ⟨Ao118, co118, eo118⟩ := Kd.R_slice HO217.out; subst eo118) | ((with_reducible refine gate_callee (f := 26) rfl ?_); refine goesL_ (some 84) rfl rfl Tryd.func26 (by kernel_rfl) rfl #[.agg #[.string t213, .string t214, .slice Ao118 t215.length co118], .string a1] rfl (by (try simp only [List.map_toArray, List.map_cons, List.map_nil]); first | done | rfl | (simp only [List.length_drop, List.length_take]; rfl)) ?_; (with_reducible refine (impl_AddWord.calls kj62 t213 t214 _ _ t215 a1 t218 t219 t220 t223 _ ?side1 ?side2 A105.out).mono ?_); (case side1 => repeat (first | exact (Kd.R_reads' HO217.out).2.2 | (with_reducible refine Kd.C_alloc ?_ _) | (with_reducible refine Kd.C_drewN ?_ _) | (with_reducible refine Kd.C_drew ?_))); (case side2 => exact (Kd.R_reads' HO217.out).2.1); rintro e w119 ⟨v221, rfl, ho0, hb⟩; refine ⟨_, rfl, ?_⟩; have n0_ := Aside0.mk (Kd.R_elder' (by (with_reducible repeat (first | apply Kd.R_alloc | apply Kd.R_drewN | apply Kd.R_drew)); exact HO_187002.out) (Kd.R_base ho0) hb); have n1_ := Aside0.mk (Kd.R_elder' (by (with_reducible repeat (first | apply Kd.R_alloc | apply Kd.R_drewN | apply Kd.R_drew)); exact HO_193002.out) (Kd.R_base ho0) hb); have n2_ := Aside0.mk (Kd.R_elder' (by (with_reducible repeat (first | apply Kd.R_alloc | apply Kd.R_drewN | apply Kd.R_drew)); exact HO_200002.out) (Kd.R_base ho0) hb); have n3_ := Aside0.mk (Kd.R_elder' (by (with_reducible repeat (first | apply Kd.R_alloc | apply Kd.R_drewN | apply Kd.R_drew)); exact HO217.out) (Kd.R_base ho0) hb); have n4_ := Aside0.mk (Kd.R_lower (Kd.R_new' (Kd.R_new' (Kd.R_new' (Kd.R_new' ho0 (Kd.R_lt (by (with_reducible repeat (first | apply Kd.R_alloc | apply Kd.R_drewN | apply Kd.R_drew)); exact HO_187002.out))) (Kd.R_lt (by (with_reducible repeat (first | apply Kd.R_alloc | apply Kd.R_drewN | apply Kd.R_drew)); exact HO_193002.out))) (Kd.R_lt (by (with_reducible repeat (first | apply Kd.R_alloc | apply Kd.R_drewN | apply Kd.R_drew)); exact HO_200002.out))) (Kd.R_lt (by (with_reducible repeat (first | apply Kd.R_alloc | apply Kd.R_drewN | apply Kd.R_drew)); exact HO217.out))) (below_size (by repeat (first | (with_reducible first | exact HB.out | apply below_alloc | apply pw_below_drewN | apply below_drew1 | refine below_set ?_ GE173.out | refine below_set ?_ GE186.out | refine below_set ?_ GE192.out | refine below_set ?_ GE199.out) | exact HB.out)))); have n5_ := Aside0.mk (blk_below (g := gb173) (o := .cells #[.string a0_0, .string a0_1, .slice A0_2 l0_2.length c0_2] 24 (0, 0)) (by (with_reducible repeat (first | refine blk_drewN ?_ _ | refine blk_drew ?_ | refine blk_alloc ?_ _)); exact BK173.out) hb); have n6_ := Aside0.mk (blk_below (g := gb186) (o := .cells #[.string t180, .string t181, .slice Ao25 t182.length co25] 28 (0, 0)) (by (with_reducible repeat (first | refine blk_drewN ?_ _ | refine blk_drew ?_ | refine blk_alloc ?_ _)); exact BK186.out) hb); have n7_ := Aside0.mk (blk_below (g := gb192) (o := .cells #[.string t187, .string t188, .slice Ao32 t208.length co32] 28 (0, 0)) (by (with_reducible repeat (first | refine blk_drewN ?_ _ | refine blk_drew ?_ | refine blk_alloc ?_ _)); exact BK192.out) hb); have n8_ := Aside0.mk (blk_below (g := gb199) (o := .cells #[.string t193, .string t194, .slice Ao39 t195.length co39] 28 (0, 0)) (by (with_reducible repeat (first | refine blk_drewN ?_ _ | refine blk_drew ?_ | refine blk_alloc ?_ _)); exact BK199.out) hb); have n9_ := Aside0.mk (below_step (by repeat (first | (with_reducible first | exact HB.out | apply below_alloc | apply pw_below_drewN | apply below_drew1 | refine below_set ?_ GE173.out | refine below_set ?_ GE186.out | refine below_set ?_ GE192.out | refine below_set ?_ GE199.out) | exact HB.out)) hb); clear HO_187002; clear HO_193002; clear HO_200002; clear HO217; clear BK173; clear BK186; clear BK192; clear BK199; clear HB; have HO_187002 := n0_; have HO_193002 := n1_; have HO_200002 := n2_; have HO217 := n3_; have HO222 := n4_; have BK173 := n5_; have BK186 := n6_; have BK192 := n7_; have BK199 := n8_; have HB := n9_; clear n0_ n1_ n2_ n3_ n4_ n5_ n6_ n7_ n8_ n9_; (try clear hb); (try clear hb2); (try clear hk); (try clear hi); (try clear ho0)) | ((with_reducible refine gate_dst (N := 14) rfl ?_); refine box_event ?hg (N := 14) ?hd (cs := #[.string (⟨#[]⟩ : ByteArray), .string (⟨#[]⟩ : ByteArray), .slice none 0 0]) (t := 28) ?hr ?_; (case hd => rfl); (case hg => rfl); (case hr => first | (go_simp; done) | (go_simp; rfl)); intro gb224 hg w120 hbox hb; have n0_ := Aside0.mk (Kd.R_below (by (with_reducible repeat (first | apply Kd.R_alloc | apply Kd.R_drewN | apply Kd.R_drew)); exact HO_187002.out) hb); have n1_ := Aside0.mk (Kd.R_below (by (with_reducible repeat (first | apply Kd.R_alloc | apply Kd.R_drewN | apply Kd.R_drew)); exact HO_193002.out) hb); have n2_ := Aside0.mk (Kd.R_below (by (with_reducible repeat (first | apply Kd.R_alloc | apply Kd.R_drewN | apply Kd.R_drew)); exact HO_200002.out) hb); have n3_ := Aside0.mk (Kd.R_below (by (with_reducible repeat (first | apply Kd.R_alloc | apply Kd.R_drewN | apply Kd.R_drew)); exact HO217.out) hb); have n4_ := Aside0.mk (Kd.R_below (by (with_reducible repeat (first | apply Kd.R_alloc | apply Kd.R_drewN | apply Kd.R_drew)); exact HO222.out) hb); have n5_ := Aside0.mk (blk_below (g := gb173) (o := .cells #[.string a0_0, .string a0_1, .slice A0_2 l0_2.length c0_2] 24 (0, 0)) (by (with_reducible repeat (first | refine blk_drewN ?_ _ | refine blk_drew ?_ | refine blk_alloc ?_ _)); exact BK173.out) hb); have n6_ := Aside0.mk (blk_below (g := gb186) (o := .cells #[.string t180, .string t181, .slice Ao25 t182.length co25] 28 (0, 0)) (by (with_reducible repeat (first | refine blk_drewN ?_ _ | refine blk_drew ?_ | refine blk_alloc ?_ _)); exact BK186.out) hb); have n7_ := Aside0.mk (blk_below (g := gb192) (o := .cells #[.string t187, .string t188, .slice Ao32 t208.length co32] 28 (0, 0)) (by (with_reducible repeat (first | refine blk_drewN ?_ _ | refine blk_drew ?_ | refine blk_alloc ?_ _)); exact BK192.out) hb); have n8_ := Aside0.mk (blk_below (g := gb199) (o := .cells #[.string t193, .string t194, .slice Ao39 t195.length co39] 28 (0, 0)) (by (with_reducible repeat (first | refine blk_drewN ?_ _ | refine blk_drew ?_ | refine blk_alloc ?_ _)); exact BK199.out) hb); have n9_ := Aside0.mk (below_step (by repeat (first | (with_reducible first | exact HB.out | apply below_alloc | apply pw_below_drewN | apply below_drew1 | refine below_set ?_ GE173.out | refine below_set ?_ GE186.out | refine below_set ?_ GE192.out | refine below_set ?_ GE199.out) | exact HB.out)) hb); have n10_ := Aside0.mk (hbox); have n11_ := Aside0.mk ((by rw [hg]; exact (below_size (by repeat (first | (with_reducible first | exact HB.out | apply below_alloc | apply pw_below_drewN | apply below_drew1 | refine below_set ?_ GE173.out | refine below_set ?_ GE186.out | refine below_set ?_ GE192.out | refine below_set ?_ GE199.out) | exact HB.out))) : w.heap.size ≤ gb224)); have n12_ := Aside0.mk ((by rw [hg]; exact (below_size (by repeat (first | (with_reducible first | exact HB.out | apply below_alloc | apply pw_below_drewN | apply below_drew1 | refine below_set ?_ GE173.out | refine below_set ?_ GE186.out | refine below_set ?_ GE192.out | refine below_set ?_ GE199.out) | exact HB.out))) : w.heap.size ≤ gb224)); have n13_ := Aside0.mk ((by rw [hg]; exact Nat.ne_of_lt (blk_lt (g := gb173) (o := .cells #[.string a0_0, .string a0_1, .slice A0_2 l0_2.length c0_2] 24 (0, 0)) (by (with_reducible repeat (first | refine blk_drewN ?_ _ | refine blk_drew ?_ | refine blk_alloc ?_ _)); exact BK173.out)) : gb173 ≠ gb224)); have n14_ := Aside0.mk ((by rw [hg]; exact Nat.ne_of_gt (blk_lt (g := gb173) (o := .cells #[.string a0_0, .string a0_1, .slice A0_2 l0_2.length c0_2] 24 (0, 0)) (by (with_reducible repeat (first | refine blk_drewN ?_ _ | refine blk_drew ?_ | refine blk_alloc ?_ _)); exact BK173.out)) : gb224 ≠ gb173)); have n15_ := Aside0.mk ((by rw [hg]; exact Nat.ne_of_lt (blk_lt (g := gb186) (o := .cells #[.string t180, .string t181, .slice Ao25 t182.length co25] 28 (0, 0)) (by (with_reducible repeat (first | refine blk_drewN ?_ _ | refine blk_drew ?_ | refine blk_alloc ?_ _)); exact BK186.out)) : gb186 ≠ gb224)); have n16_ := Aside0.mk ((by rw [hg]; exact Nat.ne_of_gt (blk_lt (g := gb186) (o := .cells #[.string t180, .string t181, .slice Ao25 t182.length co25] 28 (0, 0)) (by (with_reducible repeat (first | refine blk_drewN ?_ _ | refine blk_drew ?_ | refine blk_alloc ?_ _)); exact BK186.out)) : gb224 ≠ gb186)); have n17_ := Aside0.mk ((by rw [hg]; exact Nat.ne_of_lt (blk_lt (g := gb192) (o := .cells #[.string t187, .string t188, .slice Ao32 t208.length co32] 28 (0, 0)) (by (with_reducible repeat (first | refine blk_drewN ?_ _ | refine blk_drew ?_ | refine blk_alloc ?_ _)); exact BK192.out)) : gb192 ≠ gb224)); have n18_ := Aside0.mk ((by rw [hg]; exact Nat.ne_of_gt (blk_lt (g := gb192) (o := .cells #[.string t187, .string t188, .slice Ao32 t208.length co32] 28 (0, 0)) (by (with_reducible repeat (first | refine blk_drewN ?_ _ | refine blk_drew ?_ | refine blk_alloc ?_ _)); exact BK192.out)) : gb224 ≠ gb192)); have n19_ := Aside0.mk ((by rw [hg]; exact Nat.ne_of_lt (blk_lt (g := gb199) (o := .cells #[.string t193, .string t194, .slice Ao39 t195.length co39] 28 (0, 0)) (by (with_reducible repeat (first | refine blk_drewN ?_ _ | refine blk_drew ?_ | refine blk_alloc ?_ _)); exact BK199.out)) : gb199 ≠ gb224)); have n20_ := Aside0.mk ((by rw [hg]; exact Nat.ne_of_gt (blk_lt (g := gb199) (o := .cells #[.string t193, .string t194, .slice Ao39 t195.length co39] 28 (0, 0)) (by (with_reducible repeat (first | refine blk_drewN ?_ _ | refine blk_drew ?_ | refine blk_alloc ?_ _)); exact BK199.out)) : gb224 ≠ gb199)); clear HO_187002; clear HO_193002; clear HO_200002; clear HO217; clear HO222; clear BK173; clear BK186; clear BK192; clear BK199; clear HB; have HO_187002 := n0_; have HO_193002 := n1_; have HO_200002 := n2_; have HO217 := n3_; have HO222 := n4_; have BK173 := n5_; have BK186 := n6_; have BK192 := n7_; have BK199 := n8_; have HB := n9_; have BK224 := n10_; have GW224 := n11_; have GE224 := n12_; have NB173_224 := n13_; have NB224_173 := n14_; have NB186_224 := n15_; have NB224_186 := n16_; have NB192_224 := n17_; have NB224_192 := n18_; have NB199_224 := n19_; have NB224_199 := n20_; clear n0_ n1_ n2_ n3_ n4_ n5_ n6_ n7_ n8_ n9_ n10_ n11_ n12_ n13_ n14_ n15_ n16_ n17_ n18_ n19_ n20_; clear hb hbox hg; have hnb121 := NB224_173.out; have hnc121 := NB173_224.out; have hnb122 := NB224_186.out; have hnc122 := NB186_224.out; have hnb123 := NB224_192.out; have hnc123 := NB192_224.out; have hnb124 := NB224_199.out; have hnc124 := NB199_224.out; have hcz125_0 : w120.cell? ⟨gb224, 0, none⟩ = some (.string (⟨#[]⟩ : ByteArray)) := (blk_cell BK224.out 0).trans rfl; have hcz125_1 : w120.cell? ⟨gb224, 1, none⟩ = some (.string (⟨#[]⟩ : ByteArray)) := (blk_cell BK224.out 1).trans rfl; have hcz125_2 : w120.cell? ⟨gb224, 2, none⟩ = some (.slice none 0 0) := (blk_cell BK224.out 2).trans rfl; have hfz125_0 := blk_frozen BK224.out 0; have hfz125_1 := blk_frozen BK224.out 1; have hfz125_2 := blk_frozen BK224.out 2; obtain ⟨Ao126, co126, eo126⟩ := Kd.R_slice HO222.out; subst eo126))
                        (try simp only [Act.put, List.setIfInBounds_toArray, List.set_cons_zero, List.set_cons_succ])
                        go_cut [95] (fun v95 wc => ∃ (kq : Nat) (x95_105 : Bool), v95 = .bool x95_105 ∧ Aside0 (laws_FnExactAddWord.j2 kq t210 x95_105 t193 t194 t211 = some r) ∧ Aside0 (kq ≤ kj62) ∧ Aside0 (Kd.R Kd.string 9 wc w.heap.size (fun k_ => some k_ ≠ ((.slice Ao32 t208.length co32) : Value).ownBlock ∧ some k_ ≠ ((.slice Ao39 t195.length co39) : Value).ownBlock ∧ some k_ ≠ ((.slice Ao126 t220.length co126) : Value).ownBlock) (.slice Ao25 t182.length co25) t182) ∧ Aside0 (Kd.R Kd.string 9 wc w.heap.size (fun k_ => some k_ ≠ ((.slice Ao25 t182.length co25) : Value).ownBlock ∧ some k_ ≠ ((.slice Ao39 t195.length co39) : Value).ownBlock ∧ some k_ ≠ ((.slice Ao126 t220.length co126) : Value).ownBlock) (.slice Ao32 t208.length co32) t208) ∧ Aside0 (Kd.R Kd.string 9 wc w.heap.size (fun k_ => some k_ ≠ ((.slice Ao25 t182.length co25) : Value).ownBlock ∧ some k_ ≠ ((.slice Ao32 t208.length co32) : Value).ownBlock ∧ some k_ ≠ ((.slice Ao126 t220.length co126) : Value).ownBlock) (.slice Ao39 t195.length co39) t211) ∧ Aside0 (Kd.R Kd.string 9 wc w.heap.size (fun k_ => some k_ ≠ ((.slice Ao25 t182.length co25) : Value).ownBlock ∧ some k_ ≠ ((.slice Ao32 t208.length co32) : Value).ownBlock ∧ some k_ ≠ ((.slice Ao39 t195.length co39) : Value).ownBlock) (.slice Ao126 t220.length co126) t220) ∧ Aside0 (wc.heap[gb173]? = some (.cells #[.string a0_0, .string a0_1, (.slice A0_2 l0_2.length c0_2)] 24 (0, 0))) ∧ Aside0 (wc.heap[gb186]? = some (.cells #[.string t180, .string t181, (.slice Ao25 t182.length co25)] 28 (0, 0))) ∧ Aside0 (wc.heap[gb192]? = some (.cells #[.string t187, .string t188, (.slice Ao32 t208.length co32)] 28 (0, 0))) ∧ Aside0 (wc.heap[gb199]? = some (.cells #[.string t193, .string t194, (.slice Ao39 t195.length co39)] 28 (0, 0))) ∧ Aside0 (wc.heap[gb224]? = some (.cells #[.string t218, .string t219, (.slice Ao126 t220.length co126)] 28 (0, 0))) ∧ Aside0 (Below w.heap.size w wc))
                        case first =>
                          have H := HC106.out
                          clear HC106
                          replace H := Option.bind_eq_some_iff.mp H
                          obtain ⟨t225, A1270, H⟩ := H
                          replace H : (if t225 = true then (laws_FnExactAddWord.j2 kj62 t210 (t223 != t185) t193 t194 t211) else (laws_FnExactAddWord.j2 kj62 t210 true t193 t194 t211)) = some r := H
                          have A127 := Aside0.mk A1270
                          clear A1270
                          by_cases c128 : t225 = true
                          · subst c128
                            have H1 : (laws_FnExactAddWord.j2 kj62 t210 (t223 != t185) t193 t194 t211) = some r := by rw [if_pos rfl] at H; exact H
                            clear H
                            have H := H1
                            clear H1
                            have H' := Aside0.mk H
                            clear H
                            have hnb129 := NB224_173.out
                            have hnc129 := NB173_224.out
                            have hnb130 := NB224_186.out
                            have hnc130 := NB186_224.out
                            have hnb131 := NB224_192.out
                            have hnc131 := NB192_224.out
                            have hnb132 := NB224_199.out
                            have hnc132 := NB199_224.out
                            have hcz133_0 : w120.cell? ⟨gb224, 0, none⟩ = some (.string (⟨#[]⟩ : ByteArray)) := (blk_cell BK224.out 0).trans rfl
                            have hcz133_1 : w120.cell? ⟨gb224, 1, none⟩ = some (.string (⟨#[]⟩ : ByteArray)) := (blk_cell BK224.out 1).trans rfl
                            have hcz133_2 : w120.cell? ⟨gb224, 2, none⟩ = some (.slice none 0 0) := (blk_cell BK224.out 2).trans rfl
                            have hfz133_0 := blk_frozen BK224.out 0
                            have hfz133_1 := blk_frozen BK224.out 1
                            have hfz133_2 := blk_frozen BK224.out 2
                            have hnb134 := NB186_173.out
                            have hnc134 := NB173_186.out
                            have hnb135 := NB186_192.out
                            have hnc135 := NB192_186.out
                            have hnb136 := NB186_199.out
                            have hnc136 := NB199_186.out
                            have hcz137_0 : w120.cell? ⟨gb186, 0, none⟩ = some (.string t180) := (blk_cell BK186.out 0).trans rfl
                            have hcz137_1 : w120.cell? ⟨gb186, 1, none⟩ = some (.string t181) := (blk_cell BK186.out 1).trans rfl
                            have hcz137_2 : w120.cell? ⟨gb186, 2, none⟩ = some (.slice Ao25 t182.length co25) := (blk_cell BK186.out 2).trans rfl
                            have hfz137_0 := blk_frozen BK186.out 0
                            have hfz137_1 := blk_frozen BK186.out 1
                            have hfz137_2 := blk_frozen BK186.out 2
                            go_wp2_with (first | ((with_reducible refine gate_callee (f := 14) rfl ?_); refine goesL_ (some 89) rfl rfl Tryd.func14 (by kernel_rfl) rfl #[.agg #[.string t218, .string t219, .slice Ao126 t220.length co126], .agg #[.string t180, .string t181, .slice Ao25 t182.length co25]] rfl (by (try simp only [List.map_toArray, List.map_cons, List.map_nil]); first | done | rfl | (simp only [List.length_drop, List.length_take]; rfl)) ?_; (with_reducible refine (laws_eqScheme.calls kj62 t218 t219 _ _ t220 t180 t181 _ _ t182 true _ ?side1 ?side2 ?side3 ?side4 A127.out).mono ?_); (case side1 => refine (Kd.R_reads' (e := 9) (base := w.heap.size) (ok := fun k_ => ((((True ∧ some k_ ≠ (.slice Ao25 t182.length co25 : Value).ownBlock) ∧ some k_ ≠ (.slice Ao32 t208.length co32 : Value).ownBlock) ∧ some k_ ≠ (.slice Ao39 t195.length co39 : Value).ownBlock) ∧ some k_ ≠ (.slice Ao118 t215.length co118 : Value).ownBlock)) (n := t220.length) (c := co126) ?_).2.2; exact (by (with_reducible repeat (first | apply Kd.R_alloc | apply Kd.R_drewN | apply Kd.R_drew)); exact (Kd.R_mono (Kd.R_far (p := ⟨gb224, 2, none⟩) (Kd.R_far (p := ⟨gb224, 1, none⟩) (Kd.R_far (p := ⟨gb224, 0, none⟩) (Kd.R_types HO222.out BK224.out (by decide)) (fun _ hk => hk.2) (.string t218)) (fun _ hk => hk.2) (.string t219)) (fun _ hk => hk.2) (.slice Ao126 t220.length co126)) (fun _ h_ => h_.1)))); (case side2 => exact (Kd.R_reads' HO222.out).2.1); (case side3 => refine (Kd.R_reads' (e := 9) (base := w.heap.size) (ok := fun k_ => (((some k_ ≠ (.slice Ao32 t208.length co32 : Value).ownBlock ∧ some k_ ≠ (.slice Ao39 t195.length co39 : Value).ownBlock) ∧ some k_ ≠ (.slice Ao118 t215.length co118 : Value).ownBlock) ∧ some k_ ≠ (.slice Ao126 t220.length co126 : Value).ownBlock)) (n := t182.length) (c := co25) ?_).2.2; exact (by (with_reducible repeat (first | apply Kd.R_alloc | apply Kd.R_drewN | apply Kd.R_drew)); exact (Kd.R_mono (Kd.R_far (p := ⟨gb224, 2, none⟩) (Kd.R_far (p := ⟨gb224, 1, none⟩) (Kd.R_far (p := ⟨gb224, 0, none⟩) (Kd.R_types HO_187002.out BK224.out (by decide)) (fun _ hk => hk.2) (.string t218)) (fun _ hk => hk.2) (.string t219)) (fun _ hk => hk.2) (.slice Ao126 t220.length co126)) (fun _ h_ => h_.1)))); (case side4 => exact (Kd.R_reads' HO_187002.out).2.1); rintro e w138 ⟨rfl, hb⟩; refine ⟨_, rfl, ?_⟩; have n0_ := Aside0.mk (Kd.R_below (by (with_reducible repeat (first | apply Kd.R_alloc | apply Kd.R_drewN | apply Kd.R_drew)); exact (Kd.R_mono (Kd.R_far (p := ⟨gb224, 2, none⟩) (Kd.R_far (p := ⟨gb224, 1, none⟩) (Kd.R_far (p := ⟨gb224, 0, none⟩) (Kd.R_types HO_187002.out BK224.out (by decide)) (fun _ hk => hk.2) (.string t218)) (fun _ hk => hk.2) (.string t219)) (fun _ hk => hk.2) (.slice Ao126 t220.length co126)) (fun _ h_ => h_.1))) hb); have n1_ := Aside0.mk (Kd.R_below (by (with_reducible repeat (first | apply Kd.R_alloc | apply Kd.R_drewN | apply Kd.R_drew)); exact (Kd.R_mono (Kd.R_far (p := ⟨gb224, 2, none⟩) (Kd.R_far (p := ⟨gb224, 1, none⟩) (Kd.R_far (p := ⟨gb224, 0, none⟩) (Kd.R_types HO_193002.out BK224.out (by decide)) (fun _ hk => hk.2) (.string t218)) (fun _ hk => hk.2) (.string t219)) (fun _ hk => hk.2) (.slice Ao126 t220.length co126)) (fun _ h_ => h_.1))) hb); have n2_ := Aside0.mk (Kd.R_below (by (with_reducible repeat (first | apply Kd.R_alloc | apply Kd.R_drewN | apply Kd.R_drew)); exact (Kd.R_mono (Kd.R_far (p := ⟨gb224, 2, none⟩) (Kd.R_far (p := ⟨gb224, 1, none⟩) (Kd.R_far (p := ⟨gb224, 0, none⟩) (Kd.R_types HO_200002.out BK224.out (by decide)) (fun _ hk => hk.2) (.string t218)) (fun _ hk => hk.2) (.string t219)) (fun _ hk => hk.2) (.slice Ao126 t220.length co126)) (fun _ h_ => h_.1))) hb); have n3_ := Aside0.mk (Kd.R_below (by (with_reducible repeat (first | apply Kd.R_alloc | apply Kd.R_drewN | apply Kd.R_drew)); exact (Kd.R_mono (Kd.R_far (p := ⟨gb224, 2, none⟩) (Kd.R_far (p := ⟨gb224, 1, none⟩) (Kd.R_far (p := ⟨gb224, 0, none⟩) (Kd.R_types HO217.out BK224.out (by decide)) (fun _ hk => hk.2) (.string t218)) (fun _ hk => hk.2) (.string t219)) (fun _ hk => hk.2) (.slice Ao126 t220.length co126)) (fun _ h_ => h_.1))) hb); have n4_ := Aside0.mk (Kd.R_below (by (with_reducible repeat (first | apply Kd.R_alloc | apply Kd.R_drewN | apply Kd.R_drew)); exact (Kd.R_mono (Kd.R_far (p := ⟨gb224, 2, none⟩) (Kd.R_far (p := ⟨gb224, 1, none⟩) (Kd.R_far (p := ⟨gb224, 0, none⟩) (Kd.R_types HO222.out BK224.out (by decide)) (fun _ hk => hk.2) (.string t218)) (fun _ hk => hk.2) (.string t219)) (fun _ hk => hk.2) (.slice Ao126 t220.length co126)) (fun _ h_ => h_.1))) hb); have n5_ := Aside0.mk (blk_below (g := gb173) (o := .cells #[.string a0_0, .string a0_1, .slice A0_2 l0_2.length c0_2] 24 (0, 0)) (by (with_reducible repeat (first | refine blk_drewN ?_ _ | refine blk_drew ?_ | refine blk_alloc ?_ _)); refine blk_far ?_ NB173_224.out _; (with_reducible repeat (first | refine blk_drewN ?_ _ | refine blk_drew ?_ | refine blk_alloc ?_ _)); refine blk_far ?_ NB173_224.out _; (with_reducible repeat (first | refine blk_drewN ?_ _ | refine blk_drew ?_ | refine blk_alloc ?_ _)); refine blk_far ?_ NB173_224.out _; (with_reducible repeat (first | refine blk_drewN ?_ _ | refine blk_drew ?_ | refine blk_alloc ?_ _)); exact BK173.out) hb); have n6_ := Aside0.mk (blk_below (g := gb186) (o := .cells #[.string t180, .string t181, .slice Ao25 t182.length co25] 28 (0, 0)) (by (with_reducible repeat (first | refine blk_drewN ?_ _ | refine blk_drew ?_ | refine blk_alloc ?_ _)); refine blk_far ?_ NB186_224.out _; (with_reducible repeat (first | refine blk_drewN ?_ _ | refine blk_drew ?_ | refine blk_alloc ?_ _)); refine blk_far ?_ NB186_224.out _; (with_reducible repeat (first | refine blk_drewN ?_ _ | refine blk_drew ?_ | refine blk_alloc ?_ _)); refine blk_far ?_ NB186_224.out _; (with_reducible repeat (first | refine blk_drewN ?_ _ | refine blk_drew ?_ | refine blk_alloc ?_ _)); exact BK186.out) hb); have n7_ := Aside0.mk (blk_below (g := gb192) (o := .cells #[.string t187, .string t188, .slice Ao32 t208.length co32] 28 (0, 0)) (by (with_reducible repeat (first | refine blk_drewN ?_ _ | refine blk_drew ?_ | refine blk_alloc ?_ _)); refine blk_far ?_ NB192_224.out _; (with_reducible repeat (first | refine blk_drewN ?_ _ | refine blk_drew ?_ | refine blk_alloc ?_ _)); refine blk_far ?_ NB192_224.out _; (with_reducible repeat (first | refine blk_drewN ?_ _ | refine blk_drew ?_ | refine blk_alloc ?_ _)); refine blk_far ?_ NB192_224.out _; (with_reducible repeat (first | refine blk_drewN ?_ _ | refine blk_drew ?_ | refine blk_alloc ?_ _)); exact BK192.out) hb); have n8_ := Aside0.mk (blk_below (g := gb199) (o := .cells #[.string t193, .string t194, .slice Ao39 t195.length co39] 28 (0, 0)) (by (with_reducible repeat (first | refine blk_drewN ?_ _ | refine blk_drew ?_ | refine blk_alloc ?_ _)); refine blk_far ?_ NB199_224.out _; (with_reducible repeat (first | refine blk_drewN ?_ _ | refine blk_drew ?_ | refine blk_alloc ?_ _)); refine blk_far ?_ NB199_224.out _; (with_reducible repeat (first | refine blk_drewN ?_ _ | refine blk_drew ?_ | refine blk_alloc ?_ _)); refine blk_far ?_ NB199_224.out _; (with_reducible repeat (first | refine blk_drewN ?_ _ | refine blk_drew ?_ | refine blk_alloc ?_ _)); exact BK199.out) hb); have n9_ := Aside0.mk (blk_below (g := gb224) (o := .cells #[.string t218, .string t219, .slice Ao126 t220.length co126] 28 (0, 0)) (by (with_reducible repeat (first | refine blk_drewN ?_ _ | refine blk_drew ?_ | refine blk_alloc ?_ _)); refine blk_put (cs := #[.string t218, .string t219, .slice none 0 0]) ?_ 2 _ rfl; (with_reducible repeat (first | refine blk_drewN ?_ _ | refine blk_drew ?_ | refine blk_alloc ?_ _)); refine blk_put (cs := #[.string t218, .string (⟨#[]⟩ : ByteArray), .slice none 0 0]) ?_ 1 _ rfl; (with_reducible repeat (first | refine blk_drewN ?_ _ | refine blk_drew ?_ | refine blk_alloc ?_ _)); refine blk_put (cs := #[.string (⟨#[]⟩ : ByteArray), .string (⟨#[]⟩ : ByteArray), .slice none 0 0]) ?_ 0 _ rfl; (with_reducible repeat (first | refine blk_drewN ?_ _ | refine blk_drew ?_ | refine blk_alloc ?_ _)); exact BK224.out) hb); have n10_ := Aside0.mk (below_step (by repeat (first | (with_reducible first | exact HB.out | apply below_alloc | apply pw_below_drewN | apply below_drew1 | refine below_set ?_ GE173.out | refine below_set ?_ GE186.out | refine below_set ?_ GE192.out | refine below_set ?_ GE199.out | refine below_set ?_ GE224.out) | exact HB.out)) hb); clear HO_187002; clear HO_193002; clear HO_200002; clear HO217; clear HO222; clear BK173; clear BK186; clear BK192; clear BK199; clear BK224; clear HB; have HO_187002 := n0_; have HO_193002 := n1_; have HO_200002 := n2_; have HO217 := n3_; have HO222 := n4_; have BK173 := n5_; have BK186 := n6_; have BK192 := n7_; have BK199 := n8_; have BK224 := n9_; have HB := n10_; clear n0_ n1_ n2_ n3_ n4_ n5_ n6_ n7_ n8_ n9_ n10_; (try clear hb); (try clear hb2); (try clear hk); (try clear hi)))
                            go_meet
                            case rel => exact ⟨_, ((t223 != t185)), (by first | rfl | (simp; done) | (simp [*]; done)), H', ⟨by have := HJ13.out; have := HJ62.out; first | omega | exact Nat.le_refl _⟩, ⟨by (try simp only [hl193002_62]); (with_reducible repeat (first | apply Kd.R_alloc | apply Kd.R_drewN | apply Kd.R_drew)); exact Kd.R_mono HO_187002.out (fun _ hk => ⟨hk.1.1.1, ⟨hk.1.1.2, hk.2⟩⟩)⟩, ⟨by (try simp only [hl193002_62]); (with_reducible repeat (first | apply Kd.R_alloc | apply Kd.R_drewN | apply Kd.R_drew)); exact Kd.R_mono HO_193002.out (fun _ hk => ⟨hk.1.1.1, ⟨hk.1.1.2, hk.2⟩⟩)⟩, ⟨by (try simp only [hl193002_62]); (with_reducible repeat (first | apply Kd.R_alloc | apply Kd.R_drewN | apply Kd.R_drew)); exact Kd.R_mono HO_200002.out (fun _ hk => ⟨hk.1.1.1, ⟨hk.1.1.2, hk.2⟩⟩)⟩, ⟨by (try simp only [hl193002_62]); (with_reducible repeat (first | apply Kd.R_alloc | apply Kd.R_drewN | apply Kd.R_drew)); exact Kd.R_mono HO222.out (fun _ hk => ⟨hk.1.1.1.2, ⟨hk.1.1.2, hk.1.2⟩⟩)⟩, ⟨by (try simp only [hl193002_62]); (with_reducible repeat (first | refine blk_drewN ?_ _ | refine blk_drew ?_ | refine blk_alloc ?_ _)); exact BK173.out⟩, ⟨by (try simp only [hl193002_62]); (with_reducible repeat (first | refine blk_drewN ?_ _ | refine blk_drew ?_ | refine blk_alloc ?_ _)); exact BK186.out⟩, ⟨by (try simp only [hl193002_62]); (with_reducible repeat (first | refine blk_drewN ?_ _ | refine blk_drew ?_ | refine blk_alloc ?_ _)); exact BK192.out⟩, ⟨by (try simp only [hl193002_62]); (with_reducible repeat (first | refine blk_drewN ?_ _ | refine blk_drew ?_ | refine blk_alloc ?_ _)); exact BK199.out⟩, ⟨by (try simp only [hl193002_62]); (with_reducible repeat (first | refine blk_drewN ?_ _ | refine blk_drew ?_ | refine blk_alloc ?_ _)); exact BK224.out⟩, ⟨by repeat (first | (with_reducible first | exact HB.out | apply below_alloc | apply pw_below_drewN | apply below_drew1 | refine below_set ?_ GE173.out | refine below_set ?_ GE186.out | refine below_set ?_ GE192.out | refine below_set ?_ GE199.out | refine below_set ?_ GE224.out) | exact HB.out)⟩⟩
                          · replace c128 := Bool.eq_false_iff.mpr c128
                            subst c128
                            have H1 : (laws_FnExactAddWord.j2 kj62 t210 true t193 t194 t211) = some r := by rw [if_neg (show ¬ (false = true) by decide)] at H; exact H
                            clear H
                            have H := H1
                            clear H1
                            have H' := Aside0.mk H
                            clear H
                            have hnb139 := NB224_173.out
                            have hnc139 := NB173_224.out
                            have hnb140 := NB224_186.out
                            have hnc140 := NB186_224.out
                            have hnb141 := NB224_192.out
                            have hnc141 := NB192_224.out
                            have hnb142 := NB224_199.out
                            have hnc142 := NB199_224.out
                            have hcz143_0 : w120.cell? ⟨gb224, 0, none⟩ = some (.string (⟨#[]⟩ : ByteArray)) := (blk_cell BK224.out 0).trans rfl
                            have hcz143_1 : w120.cell? ⟨gb224, 1, none⟩ = some (.string (⟨#[]⟩ : ByteArray)) := (blk_cell BK224.out 1).trans rfl
                            have hcz143_2 : w120.cell? ⟨gb224, 2, none⟩ = some (.slice none 0 0) := (blk_cell BK224.out 2).trans rfl
                            have hfz143_0 := blk_frozen BK224.out 0
                            have hfz143_1 := blk_frozen BK224.out 1
                            have hfz143_2 := blk_frozen BK224.out 2
                            have hnb144 := NB186_173.out
                            have hnc144 := NB173_186.out
                            have hnb145 := NB186_192.out
                            have hnc145 := NB192_186.out
                            have hnb146 := NB186_199.out
                            have hnc146 := NB199_186.out
                            have hcz147_0 : w120.cell? ⟨gb186, 0, none⟩ = some (.string t180) := (blk_cell BK186.out 0).trans rfl
                            have hcz147_1 : w120.cell? ⟨gb186, 1, none⟩ = some (.string t181) := (blk_cell BK186.out 1).trans rfl
                            have hcz147_2 : w120.cell? ⟨gb186, 2, none⟩ = some (.slice Ao25 t182.length co25) := (blk_cell BK186.out 2).trans rfl
                            have hfz147_0 := blk_frozen BK186.out 0
                            have hfz147_1 := blk_frozen BK186.out 1
                            have hfz147_2 := blk_frozen BK186.out 2
                            go_wp2_with (first | ((with_reducible refine gate_callee (f := 14) rfl ?_); refine goesL_ (some 89) rfl rfl Tryd.func14 (by kernel_rfl) rfl #[.agg #[.string t218, .string t219, .slice Ao126 t220.length co126], .agg #[.string t180, .string t181, .slice Ao25 t182.length co25]] rfl (by (try simp only [List.map_toArray, List.map_cons, List.map_nil]); first | done | rfl | (simp only [List.length_drop, List.length_take]; rfl)) ?_; (with_reducible refine (laws_eqScheme.calls kj62 t218 t219 _ _ t220 t180 t181 _ _ t182 false _ ?side1 ?side2 ?side3 ?side4 A127.out).mono ?_); (case side1 => refine (Kd.R_reads' (e := 9) (base := w.heap.size) (ok := fun k_ => ((((True ∧ some k_ ≠ (.slice Ao25 t182.length co25 : Value).ownBlock) ∧ some k_ ≠ (.slice Ao32 t208.length co32 : Value).ownBlock) ∧ some k_ ≠ (.slice Ao39 t195.length co39 : Value).ownBlock) ∧ some k_ ≠ (.slice Ao118 t215.length co118 : Value).ownBlock)) (n := t220.length) (c := co126) ?_).2.2; exact (by (with_reducible repeat (first | apply Kd.R_alloc | apply Kd.R_drewN | apply Kd.R_drew)); exact (Kd.R_mono (Kd.R_far (p := ⟨gb224, 2, none⟩) (Kd.R_far (p := ⟨gb224, 1, none⟩) (Kd.R_far (p := ⟨gb224, 0, none⟩) (Kd.R_types HO222.out BK224.out (by decide)) (fun _ hk => hk.2) (.string t218)) (fun _ hk => hk.2) (.string t219)) (fun _ hk => hk.2) (.slice Ao126 t220.length co126)) (fun _ h_ => h_.1)))); (case side2 => exact (Kd.R_reads' HO222.out).2.1); (case side3 => refine (Kd.R_reads' (e := 9) (base := w.heap.size) (ok := fun k_ => (((some k_ ≠ (.slice Ao32 t208.length co32 : Value).ownBlock ∧ some k_ ≠ (.slice Ao39 t195.length co39 : Value).ownBlock) ∧ some k_ ≠ (.slice Ao118 t215.length co118 : Value).ownBlock) ∧ some k_ ≠ (.slice Ao126 t220.length co126 : Value).ownBlock)) (n := t182.length) (c := co25) ?_).2.2; exact (by (with_reducible repeat (first | apply Kd.R_alloc | apply Kd.R_drewN | apply Kd.R_drew)); exact (Kd.R_mono (Kd.R_far (p := ⟨gb224, 2, none⟩) (Kd.R_far (p := ⟨gb224, 1, none⟩) (Kd.R_far (p := ⟨gb224, 0, none⟩) (Kd.R_types HO_187002.out BK224.out (by decide)) (fun _ hk => hk.2) (.string t218)) (fun _ hk => hk.2) (.string t219)) (fun _ hk => hk.2) (.slice Ao126 t220.length co126)) (fun _ h_ => h_.1)))); (case side4 => exact (Kd.R_reads' HO_187002.out).2.1); rintro e w148 ⟨rfl, hb⟩; refine ⟨_, rfl, ?_⟩; have n0_ := Aside0.mk (Kd.R_below (by (with_reducible repeat (first | apply Kd.R_alloc | apply Kd.R_drewN | apply Kd.R_drew)); exact (Kd.R_mono (Kd.R_far (p := ⟨gb224, 2, none⟩) (Kd.R_far (p := ⟨gb224, 1, none⟩) (Kd.R_far (p := ⟨gb224, 0, none⟩) (Kd.R_types HO_187002.out BK224.out (by decide)) (fun _ hk => hk.2) (.string t218)) (fun _ hk => hk.2) (.string t219)) (fun _ hk => hk.2) (.slice Ao126 t220.length co126)) (fun _ h_ => h_.1))) hb); have n1_ := Aside0.mk (Kd.R_below (by (with_reducible repeat (first | apply Kd.R_alloc | apply Kd.R_drewN | apply Kd.R_drew)); exact (Kd.R_mono (Kd.R_far (p := ⟨gb224, 2, none⟩) (Kd.R_far (p := ⟨gb224, 1, none⟩) (Kd.R_far (p := ⟨gb224, 0, none⟩) (Kd.R_types HO_193002.out BK224.out (by decide)) (fun _ hk => hk.2) (.string t218)) (fun _ hk => hk.2) (.string t219)) (fun _ hk => hk.2) (.slice Ao126 t220.length co126)) (fun _ h_ => h_.1))) hb); have n2_ := Aside0.mk (Kd.R_below (by (with_reducible repeat (first | apply Kd.R_alloc | apply Kd.R_drewN | apply Kd.R_drew)); exact (Kd.R_mono (Kd.R_far (p := ⟨gb224, 2, none⟩) (Kd.R_far (p := ⟨gb224, 1, none⟩) (Kd.R_far (p := ⟨gb224, 0, none⟩) (Kd.R_types HO_200002.out BK224.out (by decide)) (fun _ hk => hk.2) (.string t218)) (fun _ hk => hk.2) (.string t219)) (fun _ hk => hk.2) (.slice Ao126 t220.length co126)) (fun _ h_ => h_.1))) hb); have n3_ := Aside0.mk (Kd.R_below (by (with_reducible repeat (first | apply Kd.R_alloc | apply Kd.R_drewN | apply Kd.R_drew)); exact (Kd.R_mono (Kd.R_far (p := ⟨gb224, 2, none⟩) (Kd.R_far (p := ⟨gb224, 1, none⟩) (Kd.R_far (p := ⟨gb224, 0, none⟩) (Kd.R_types HO217.out BK224.out (by decide)) (fun _ hk => hk.2) (.string t218)) (fun _ hk => hk.2) (.string t219)) (fun _ hk => hk.2) (.slice Ao126 t220.length co126)) (fun _ h_ => h_.1))) hb); have n4_ := Aside0.mk (Kd.R_below (by (with_reducible repeat (first | apply Kd.R_alloc | apply Kd.R_drewN | apply Kd.R_drew)); exact (Kd.R_mono (Kd.R_far (p := ⟨gb224, 2, none⟩) (Kd.R_far (p := ⟨gb224, 1, none⟩) (Kd.R_far (p := ⟨gb224, 0, none⟩) (Kd.R_types HO222.out BK224.out (by decide)) (fun _ hk => hk.2) (.string t218)) (fun _ hk => hk.2) (.string t219)) (fun _ hk => hk.2) (.slice Ao126 t220.length co126)) (fun _ h_ => h_.1))) hb); have n5_ := Aside0.mk (blk_below (g := gb173) (o := .cells #[.string a0_0, .string a0_1, .slice A0_2 l0_2.length c0_2] 24 (0, 0)) (by (with_reducible repeat (first | refine blk_drewN ?_ _ | refine blk_drew ?_ | refine blk_alloc ?_ _)); refine blk_far ?_ NB173_224.out _; (with_reducible repeat (first | refine blk_drewN ?_ _ | refine blk_drew ?_ | refine blk_alloc ?_ _)); refine blk_far ?_ NB173_224.out _; (with_reducible repeat (first | refine blk_drewN ?_ _ | refine blk_drew ?_ | refine blk_alloc ?_ _)); refine blk_far ?_ NB173_224.out _; (with_reducible repeat (first | refine blk_drewN ?_ _ | refine blk_drew ?_ | refine blk_alloc ?_ _)); exact BK173.out) hb); have n6_ := Aside0.mk (blk_below (g := gb186) (o := .cells #[.string t180, .string t181, .slice Ao25 t182.length co25] 28 (0, 0)) (by (with_reducible repeat (first | refine blk_drewN ?_ _ | refine blk_drew ?_ | refine blk_alloc ?_ _)); refine blk_far ?_ NB186_224.out _; (with_reducible repeat (first | refine blk_drewN ?_ _ | refine blk_drew ?_ | refine blk_alloc ?_ _)); refine blk_far ?_ NB186_224.out _; (with_reducible repeat (first | refine blk_drewN ?_ _ | refine blk_drew ?_ | refine blk_alloc ?_ _)); refine blk_far ?_ NB186_224.out _; (with_reducible repeat (first | refine blk_drewN ?_ _ | refine blk_drew ?_ | refine blk_alloc ?_ _)); exact BK186.out) hb); have n7_ := Aside0.mk (blk_below (g := gb192) (o := .cells #[.string t187, .string t188, .slice Ao32 t208.length co32] 28 (0, 0)) (by (with_reducible repeat (first | refine blk_drewN ?_ _ | refine blk_drew ?_ | refine blk_alloc ?_ _)); refine blk_far ?_ NB192_224.out _; (with_reducible repeat (first | refine blk_drewN ?_ _ | refine blk_drew ?_ | refine blk_alloc ?_ _)); refine blk_far ?_ NB192_224.out _; (with_reducible repeat (first | refine blk_drewN ?_ _ | refine blk_drew ?_ | refine blk_alloc ?_ _)); refine blk_far ?_ NB192_224.out _; (with_reducible repeat (first | refine blk_drewN ?_ _ | refine blk_drew ?_ | refine blk_alloc ?_ _)); exact BK192.out) hb); have n8_ := Aside0.mk (blk_below (g := gb199) (o := .cells #[.string t193, .string t194, .slice Ao39 t195.length co39] 28 (0, 0)) (by (with_reducible repeat (first | refine blk_drewN ?_ _ | refine blk_drew ?_ | refine blk_alloc ?_ _)); refine blk_far ?_ NB199_224.out _; (with_reducible repeat (first | refine blk_drewN ?_ _ | refine blk_drew ?_ | refine blk_alloc ?_ _)); refine blk_far ?_ NB199_224.out _; (with_reducible repeat (first | refine blk_drewN ?_ _ | refine blk_drew ?_ | refine blk_alloc ?_ _)); refine blk_far ?_ NB199_224.out _; (with_reducible repeat (first | refine blk_drewN ?_ _ | refine blk_drew ?_ | refine blk_alloc ?_ _)); exact BK199.out) hb); have n9_ := Aside0.mk (blk_below (g := gb224) (o := .cells #[.string t218, .string t219, .slice Ao126 t220.length co126] 28 (0, 0)) (by (with_reducible repeat (first | refine blk_drewN ?_ _ | refine blk_drew ?_ | refine blk_alloc ?_ _)); refine blk_put (cs := #[.string t218, .string t219, .slice none 0 0]) ?_ 2 _ rfl; (with_reducible repeat (first | refine blk_drewN ?_ _ | refine blk_drew ?_ | refine blk_alloc ?_ _)); refine blk_put (cs := #[.string t218, .string (⟨#[]⟩ : ByteArray), .slice none 0 0]) ?_ 1 _ rfl; (with_reducible repeat (first | refine blk_drewN ?_ _ | refine blk_drew ?_ | refine blk_alloc ?_ _)); refine blk_put (cs := #[.string (⟨#[]⟩ : ByteArray), .string (⟨#[]⟩ : ByteArray), .slice none 0 0]) ?_ 0 _ rfl; (with_reducible repeat (first | refine blk_drewN ?_ _ | refine blk_drew ?_ | refine blk_alloc ?_ _)); exact BK224.out) hb); have n10_ := Aside0.mk (below_step (by repeat (first | (with_reducible first | exact HB.out | apply below_alloc | apply pw_below_drewN | apply below_drew1 | refine below_set ?_ GE173.out | refine below_set ?_ GE186.out | refine below_set ?_ GE192.out | refine below_set ?_ GE199.out | refine below_set ?_ GE224.out) | exact HB.out)) hb); clear HO_187002; clear HO_193002; clear HO_200002; clear HO217; clear HO222; clear BK173; clear BK186; clear BK192; clear BK199; clear BK224; clear HB; have HO_187002 := n0_; have HO_193002 := n1_; have HO_200002 := n2_; have HO217 := n3_; have HO222 := n4_; have BK173 := n5_; have BK186 := n6_; have BK192 := n7_; have BK199 := n8_; have BK224 := n9_; have HB := n10_; clear n0_ n1_ n2_ n3_ n4_ n5_ n6_ n7_ n8_ n9_ n10_; (try clear hb); (try clear hb2); (try clear hk); (try clear hi)))
                            go_meet
                            case rel => exact ⟨_, (true), (by first | rfl | (simp; done) | (simp [*]; done)), H', ⟨by have := HJ13.out; have := HJ62.out; first | omega | exact Nat.le_refl _⟩, ⟨by (try simp only [hl193002_62]); (with_reducible repeat (first | apply Kd.R_alloc | apply Kd.R_drewN | apply Kd.R_drew)); exact Kd.R_mono HO_187002.out (fun _ hk => ⟨hk.1.1.1, ⟨hk.1.1.2, hk.2⟩⟩)⟩, ⟨by (try simp only [hl193002_62]); (with_reducible repeat (first | apply Kd.R_alloc | apply Kd.R_drewN | apply Kd.R_drew)); exact Kd.R_mono HO_193002.out (fun _ hk => ⟨hk.1.1.1, ⟨hk.1.1.2, hk.2⟩⟩)⟩, ⟨by (try simp only [hl193002_62]); (with_reducible repeat (first | apply Kd.R_alloc | apply Kd.R_drewN | apply Kd.R_drew)); exact Kd.R_mono HO_200002.out (fun _ hk => ⟨hk.1.1.1, ⟨hk.1.1.2, hk.2⟩⟩)⟩, ⟨by (try simp only [hl193002_62]); (with_reducible repeat (first | apply Kd.R_alloc | apply Kd.R_drewN | apply Kd.R_drew)); exact Kd.R_mono HO222.out (fun _ hk => ⟨hk.1.1.1.2, ⟨hk.1.1.2, hk.1.2⟩⟩)⟩, ⟨by (try simp only [hl193002_62]); (with_reducible repeat (first | refine blk_drewN ?_ _ | refine blk_drew ?_ | refine blk_alloc ?_ _)); exact BK173.out⟩, ⟨by (try simp only [hl193002_62]); (with_reducible repeat (first | refine blk_drewN ?_ _ | refine blk_drew ?_ | refine blk_alloc ?_ _)); exact BK186.out⟩, ⟨by (try simp only [hl193002_62]); (with_reducible repeat (first | refine blk_drewN ?_ _ | refine blk_drew ?_ | refine blk_alloc ?_ _)); exact BK192.out⟩, ⟨by (try simp only [hl193002_62]); (with_reducible repeat (first | refine blk_drewN ?_ _ | refine blk_drew ?_ | refine blk_alloc ?_ _)); exact BK199.out⟩, ⟨by (try simp only [hl193002_62]); (with_reducible repeat (first | refine blk_drewN ?_ _ | refine blk_drew ?_ | refine blk_alloc ?_ _)); exact BK224.out⟩, ⟨by repeat (first | (with_reducible first | exact HB.out | apply below_alloc | apply pw_below_drewN | apply below_drew1 | refine below_set ?_ GE173.out | refine below_set ?_ GE186.out | refine below_set ?_ GE192.out | refine below_set ?_ GE199.out | refine below_set ?_ GE224.out) | exact HB.out)⟩⟩
                        case rest =>
                          clear HC106
                          try clear c1
                          try clear c2
                          try clear p2
                          try clear c3
                          try clear c3b0
                          try clear c3b1
                          try clear c4
                          try clear c5
                          try clear c6
                          try clear c6b0
                          try clear c7
                          try clear c8
                          try clear c9
                          try clear c10
                          try clear c11
                          try clear c12
                          try clear c13
                          try clear c14
                          try clear c17
                          try clear c18
                          try clear c23
                          try clear c25
                          try clear c26
                          try clear c29
                          try clear c30
                          try clear c35
                          try clear c36
                          try clear c37
                          try clear c41
                          try clear c42
                          try clear c43
                          try clear c44
                          try clear c46
                          try clear c47
                          try clear c50
                          try clear c51
                          try clear c52
                          try clear c54
                          try clear c55
                          try clear c58
                          try clear c61
                          try clear c68
                          try clear c69
                          try clear c70
                          try clear c73
                          try clear c73b0
                          try clear c75
                          try clear c76
                          try clear c77
                          try clear c78
                          try clear c80
                          try clear c81
                          try clear c84
                          try clear c85
                          try clear c86
                          try clear c88
                          try clear c89
                          try clear c92
                          try clear c95
                          try clear c95b0
                          try clear c96
                          try clear c97
                          try clear c98
                          try clear c103
                          try clear c103b0
                          try clear c103b1
                          try clear c107
                          try clear c108
                          try clear c109
                          try clear c114
                          try clear c115
                          try clear c121
                          try clear c122
                          try clear c123
                          try clear c124
                          try clear c128
                          try clear c129
                          try clear c130
                          try clear c131
                          try clear c132
                          try clear c134
                          try clear c135
                          try clear c136
                          try clear c139
                          try clear c140
                          try clear c141
                          try clear c142
                          try clear c144
                          try clear c145
                          try clear c146
                          try clear hcz101_0
                          try clear hcz101_1
                          try clear hcz101_2
                          try clear hcz110_0
                          try clear hcz110_1
                          try clear hcz110_2
                          try clear hcz112_0
                          try clear hcz112_1
                          try clear hcz112_2
                          try clear hcz116_0
                          try clear hcz116_1
                          try clear hcz116_2
                          try clear hcz125_0
                          try clear hcz125_1
                          try clear hcz125_2
                          try clear hcz133_0
                          try clear hcz133_1
                          try clear hcz133_2
                          try clear hcz137_0
                          try clear hcz137_1
                          try clear hcz137_2
                          try clear hcz143_0
                          try clear hcz143_1
                          try clear hcz143_2
                          try clear hcz147_0
                          try clear hcz147_1
                          try clear hcz147_2
                          try clear hcz16_0
                          try clear hcz16_1
                          try clear hcz16_2
                          try clear hcz18_0
                          try clear hcz18_1
                          try clear hcz18_2
                          try clear hcz24_0
                          try clear hcz24_1
                          try clear hcz24_2
                          try clear hcz26_0
                          try clear hcz26_1
                          try clear hcz26_2
                          try clear hcz31_0
                          try clear hcz31_1
                          try clear hcz31_2
                          try clear hcz38_0
                          try clear hcz38_1
                          try clear hcz38_2
                          try clear hcz45_0
                          try clear hcz45_1
                          try clear hcz45_2
                          try clear hcz48_0
                          try clear hcz48_1
                          try clear hcz48_2
                          try clear hcz53_0
                          try clear hcz53_1
                          try clear hcz53_2
                          try clear hcz56_0
                          try clear hcz56_1
                          try clear hcz56_2
                          try clear hcz71_0
                          try clear hcz71_1
                          try clear hcz71_2
                          try clear hcz79_0
                          try clear hcz79_1
                          try clear hcz79_2
                          try clear hcz82_0
                          try clear hcz82_1
                          try clear hcz82_2
                          try clear hcz87_0
                          try clear hcz87_1
                          try clear hcz87_2
                          try clear hcz8_0
                          try clear hcz8_1
                          try clear hcz8_2
                          try clear hcz90_0
                          try clear hcz90_1
                          try clear hcz90_2
                          try clear hcz99_0
                          try clear hcz99_1
                          try clear hcz99_2
                          try clear hfz101_0
                          try clear hfz101_1
                          try clear hfz101_2
                          try clear hfz110_0
                          try clear hfz110_1
                          try clear hfz110_2
                          try clear hfz112_0
                          try clear hfz112_1
                          try clear hfz112_2
                          try clear hfz116_0
                          try clear hfz116_1
                          try clear hfz116_2
                          try clear hfz125_0
                          try clear hfz125_1
                          try clear hfz125_2
                          try clear hfz133_0
                          try clear hfz133_1
                          try clear hfz133_2
                          try clear hfz137_0
                          try clear hfz137_1
                          try clear hfz137_2
                          try clear hfz143_0
                          try clear hfz143_1
                          try clear hfz143_2
                          try clear hfz147_0
                          try clear hfz147_1
                          try clear hfz147_2
                          try clear hfz16_0
                          try clear hfz16_1
                          try clear hfz16_2
                          try clear hfz18_0
                          try clear hfz18_1
                          try clear hfz18_2
                          try clear hfz24_0
                          try clear hfz24_1
                          try clear hfz24_2
                          try clear hfz26_0
                          try clear hfz26_1
                          try clear hfz26_2
                          try clear hfz31_0
                          try clear hfz31_1
                          try clear hfz31_2
                          try clear hfz38_0
                          try clear hfz38_1
                          try clear hfz38_2
                          try clear hfz45_0
                          try clear hfz45_1
                          try clear hfz45_2
                          try clear hfz48_0
                          try clear hfz48_1
                          try clear hfz48_2
                          try clear hfz53_0
                          try clear hfz53_1
                          try clear hfz53_2
                          try clear hfz56_0
                          try clear hfz56_1
                          try clear hfz56_2
                          try clear hfz71_0
                          try clear hfz71_1
                          try clear hfz71_2
                          try clear hfz79_0
                          try clear hfz79_1
                          try clear hfz79_2
                          try clear hfz82_0
                          try clear hfz82_1
                          try clear hfz82_2
                          try clear hfz87_0
                          try clear hfz87_1
                          try clear hfz87_2
                          try clear hfz8_0
                          try clear hfz8_1
                          try clear hfz8_2
                          try clear hfz90_0
                          try clear hfz90_1
                          try clear hfz90_2
                          try clear hfz99_0
                          try clear hfz99_1
                          try clear hfz99_2
                          try clear p2
                          obtain ⟨kq, x95_105, rfl, HA, HJ105, HO_187002, HO_193002, HO_200002, HO_225002, BK173, BK186, BK192, BK199, BK224, HB⟩ := hcut
                          have hl200002_105 := (Kd.R_reads' HO_200002.out).1
                          rw [hl200002_105] at HO_200002
                          (try simp only [hl200002_105])
                          (try simp only [hl200002_105] at BK173)
                          (try simp only [hl200002_105] at BK186)
                          (try simp only [hl200002_105] at BK192)
                          (try simp only [hl200002_105] at BK199)
                          (try simp only [hl200002_105] at BK224)
                          (try simp only [hl200002_105] at HO_187002)
                          (try simp only [hl200002_105] at HO_193002)
                          (try simp only [hl200002_105] at HO_225002)
                          cases kq with
                          | zero => exact absurd HA.out (by simp [laws_FnExactAddWord.j2])
                          | succ kj105 =>
                            have H := HA.out
                            clear HA
                            simp only [laws_FnExactAddWord.j2] at H
                            by_cases c149 : x95_105 = true
                            · subst c149
                              have H1 : (some false) = some r := by rw [if_pos rfl] at H; exact H
                              clear H
                              have H := H1
                              clear H1
                              obtain rfl := Option.some.inj H
                              go_wp2
                              go_ret
                              exact ⟨by first | rfl | (simp [errW_none, errW_some] <;> rfl) | (simp [*, errW_none, errW_some] <;> rfl), by repeat (first | (with_reducible first | exact HB.out | apply below_alloc | apply pw_below_drewN | apply below_drew1 | refine below_set ?_ GE173.out | refine below_set ?_ GE186.out | refine below_set ?_ GE192.out | refine below_set ?_ GE199.out | refine below_set ?_ GE224.out) | exact HB.out)⟩
                            · replace c149 := Bool.eq_false_iff.mpr c149
                              subst c149
                              have H1 : ((laws_heldScheme.f kj105 t193 t194 t211 1).bind fun t226 => (if t226 < 0 then (some false) else (if t226 = t210 then (some true) else (some false)))) = some r := by rw [if_neg (show ¬ (false = true) by decide)] at H; exact H
                              clear H
                              have H := H1
                              clear H1
                              replace H := Option.bind_eq_some_iff.mp H
                              obtain ⟨t226, A1500, H⟩ := H
                              replace H : (if t226 < 0 then (some false) else (if t226 = t210 then (some true) else (some false))) = some r := H
                              have A150 := Aside0.mk A1500
                              clear A1500
                              by_cases c151 : t226 < 0
                              · rw [if_pos c151] at H
                                have c151b0 : decide (t226 < 0) = true := decide_eq_true c151
                                clear c151
                                obtain rfl := Option.some.inj H
                                have hnb152 := NB199_173.out
                                have hnc152 := NB173_199.out
                                have hnb153 := NB199_186.out
                                have hnc153 := NB186_199.out
                                have hnb154 := NB199_192.out
                                have hnc154 := NB192_199.out
                                have hnb155 := NB199_224.out
                                have hnc155 := NB224_199.out
                                have hcz156_0 : wc.cell? ⟨gb199, 0, none⟩ = some (.string t193) := (blk_cell BK199.out 0).trans rfl
                                have hcz156_1 : wc.cell? ⟨gb199, 1, none⟩ = some (.string t194) := (blk_cell BK199.out 1).trans rfl
                                have hcz156_2 : wc.cell? ⟨gb199, 2, none⟩ = some (.slice Ao39 t211.length co39) := (blk_cell BK199.out 2).trans rfl
                                have hfz156_0 := blk_frozen BK199.out 0
                                have hfz156_1 := blk_frozen BK199.out 1
                                have hfz156_2 := blk_frozen BK199.out 2
                                go_wp2_with (first | ((with_reducible refine gate_callee (f := 18) rfl ?_); refine goesL_ (some 98) rfl rfl Tryd.func18 (by kernel_rfl) rfl #[.agg #[.string t193, .string t194, .slice Ao39 t211.length co39], .int .i64 1] rfl (by (try simp only [List.map_toArray, List.map_cons, List.map_nil]); first | done | rfl | (simp only [List.length_drop, List.length_take]; rfl)) ?_; (with_reducible refine (laws_heldScheme.calls kj105 t193 t194 _ _ t211 1 t226 _ ?side1 ?side2 A150.out).mono ?_); (case side1 => repeat (first | exact (Kd.R_reads' HO_200002.out).2.2 | (with_reducible refine Kd.C_alloc ?_ _) | (with_reducible refine Kd.C_drewN ?_ _) | (with_reducible refine Kd.C_drew ?_))); (case side2 => exact (Kd.R_reads' HO_200002.out).2.1); rintro e w157 ⟨rfl, hb⟩; refine ⟨_, rfl, ?_⟩; have n0_ := Aside0.mk (Kd.R_below (by (with_reducible repeat (first | apply Kd.R_alloc | apply Kd.R_drewN | apply Kd.R_drew)); exact HO_187002.out) hb); have n1_ := Aside0.mk (Kd.R_below (by (with_reducible repeat (first | apply Kd.R_alloc | apply Kd.R_drewN | apply Kd.R_drew)); exact HO_193002.out) hb); have n2_ := Aside0.mk (Kd.R_below (by (with_reducible repeat (first | apply Kd.R_alloc | apply Kd.R_drewN | apply Kd.R_drew)); exact HO_200002.out) hb); have n3_ := Aside0.mk (Kd.R_below (by (with_reducible repeat (first | apply Kd.R_alloc | apply Kd.R_drewN | apply Kd.R_drew)); exact HO_225002.out) hb); have n4_ := Aside0.mk (blk_below (g := gb173) (o := .cells #[.string a0_0, .string a0_1, .slice A0_2 l0_2.length c0_2] 24 (0, 0)) (by (with_reducible repeat (first | refine blk_drewN ?_ _ | refine blk_drew ?_ | refine blk_alloc ?_ _)); exact BK173.out) hb); have n5_ := Aside0.mk (blk_below (g := gb186) (o := .cells #[.string t180, .string t181, .slice Ao25 t182.length co25] 28 (0, 0)) (by (with_reducible repeat (first | refine blk_drewN ?_ _ | refine blk_drew ?_ | refine blk_alloc ?_ _)); exact BK186.out) hb); have n6_ := Aside0.mk (blk_below (g := gb192) (o := .cells #[.string t187, .string t188, .slice Ao32 t208.length co32] 28 (0, 0)) (by (with_reducible repeat (first | refine blk_drewN ?_ _ | refine blk_drew ?_ | refine blk_alloc ?_ _)); exact BK192.out) hb); have n7_ := Aside0.mk (blk_below (g := gb199) (o := .cells #[.string t193, .string t194, .slice Ao39 t211.length co39] 28 (0, 0)) (by (with_reducible repeat (first | refine blk_drewN ?_ _ | refine blk_drew ?_ | refine blk_alloc ?_ _)); exact BK199.out) hb); have n8_ := Aside0.mk (blk_below (g := gb224) (o := .cells #[.string t218, .string t219, .slice Ao126 t220.length co126] 28 (0, 0)) (by (with_reducible repeat (first | refine blk_drewN ?_ _ | refine blk_drew ?_ | refine blk_alloc ?_ _)); exact BK224.out) hb); have n9_ := Aside0.mk (below_step (by repeat (first | (with_reducible first | exact HB.out | apply below_alloc | apply pw_below_drewN | apply below_drew1 | refine below_set ?_ GE173.out | refine below_set ?_ GE186.out | refine below_set ?_ GE192.out | refine below_set ?_ GE199.out | refine below_set ?_ GE224.out) | exact HB.out)) hb); clear HO_187002; clear HO_193002; clear HO_200002; clear HO_225002; clear BK173; clear BK186; clear BK192; clear BK199; clear BK224; clear HB; have HO_187002 := n0_; have HO_193002 := n1_; have HO_200002 := n2_; have HO_225002 := n3_; have BK173 := n4_; have BK186 := n5_; have BK192 := n6_; have BK199 := n7_; have BK224 := n8_; have HB := n9_; clear n0_ n1_ n2_ n3_ n4_ n5_ n6_ n7_ n8_ n9_; (try clear hb); (try clear hb2); (try clear hk); (try clear hi)))
                                go_ret
                                exact ⟨by first | rfl | (simp [errW_none, errW_some] <;> rfl) | (simp [*, errW_none, errW_some] <;> rfl), by repeat (first | (with_reducible first | exact HB.out | apply below_alloc | apply pw_below_drewN | apply below_drew1 | refine below_set ?_ GE173.out | refine below_set ?_ GE186.out | refine below_set ?_ GE192.out | refine below_set ?_ GE199.out | refine below_set ?_ GE224.out) | exact HB.out)⟩
                              · rw [if_neg c151] at H
                                have c151b0 : decide (t226 < 0) = false := decide_eq_false c151
                                clear c151
                                by_cases c158 : t226 = t210
                                · rw [if_pos c158] at H
                                  have c158b0 : (t226 == t210) = true := beq_iff_eq.mpr c158
                                  have c158b1 : (t226 != t210) = false := bne_eq_false_iff_eq.mpr c158
                                  clear c158
                                  obtain rfl := Option.some.inj H
                                  have hnb159 := NB199_173.out
                                  have hnc159 := NB173_199.out
                                  have hnb160 := NB199_186.out
                                  have hnc160 := NB186_199.out
                                  have hnb161 := NB199_192.out
                                  have hnc161 := NB192_199.out
                                  have hnb162 := NB199_224.out
                                  have hnc162 := NB224_199.out
                                  have hcz163_0 : wc.cell? ⟨gb199, 0, none⟩ = some (.string t193) := (blk_cell BK199.out 0).trans rfl
                                  have hcz163_1 : wc.cell? ⟨gb199, 1, none⟩ = some (.string t194) := (blk_cell BK199.out 1).trans rfl
                                  have hcz163_2 : wc.cell? ⟨gb199, 2, none⟩ = some (.slice Ao39 t211.length co39) := (blk_cell BK199.out 2).trans rfl
                                  have hfz163_0 := blk_frozen BK199.out 0
                                  have hfz163_1 := blk_frozen BK199.out 1
                                  have hfz163_2 := blk_frozen BK199.out 2
                                  go_wp2_with (first | ((with_reducible refine gate_callee (f := 18) rfl ?_); refine goesL_ (some 98) rfl rfl Tryd.func18 (by kernel_rfl) rfl #[.agg #[.string t193, .string t194, .slice Ao39 t211.length co39], .int .i64 1] rfl (by (try simp only [List.map_toArray, List.map_cons, List.map_nil]); first | done | rfl | (simp only [List.length_drop, List.length_take]; rfl)) ?_; (with_reducible refine (laws_heldScheme.calls kj105 t193 t194 _ _ t211 1 t226 _ ?side1 ?side2 A150.out).mono ?_); (case side1 => repeat (first | exact (Kd.R_reads' HO_200002.out).2.2 | (with_reducible refine Kd.C_alloc ?_ _) | (with_reducible refine Kd.C_drewN ?_ _) | (with_reducible refine Kd.C_drew ?_))); (case side2 => exact (Kd.R_reads' HO_200002.out).2.1); rintro e w164 ⟨rfl, hb⟩; refine ⟨_, rfl, ?_⟩; have n0_ := Aside0.mk (Kd.R_below (by (with_reducible repeat (first | apply Kd.R_alloc | apply Kd.R_drewN | apply Kd.R_drew)); exact HO_187002.out) hb); have n1_ := Aside0.mk (Kd.R_below (by (with_reducible repeat (first | apply Kd.R_alloc | apply Kd.R_drewN | apply Kd.R_drew)); exact HO_193002.out) hb); have n2_ := Aside0.mk (Kd.R_below (by (with_reducible repeat (first | apply Kd.R_alloc | apply Kd.R_drewN | apply Kd.R_drew)); exact HO_200002.out) hb); have n3_ := Aside0.mk (Kd.R_below (by (with_reducible repeat (first | apply Kd.R_alloc | apply Kd.R_drewN | apply Kd.R_drew)); exact HO_225002.out) hb); have n4_ := Aside0.mk (blk_below (g := gb173) (o := .cells #[.string a0_0, .string a0_1, .slice A0_2 l0_2.length c0_2] 24 (0, 0)) (by (with_reducible repeat (first | refine blk_drewN ?_ _ | refine blk_drew ?_ | refine blk_alloc ?_ _)); exact BK173.out) hb); have n5_ := Aside0.mk (blk_below (g := gb186) (o := .cells #[.string t180, .string t181, .slice Ao25 t182.length co25] 28 (0, 0)) (by (with_reducible repeat (first | refine blk_drewN ?_ _ | refine blk_drew ?_ | refine blk_alloc ?_ _)); exact BK186.out) hb); have n6_ := Aside0.mk (blk_below (g := gb192) (o := .cells #[.string t187, .string t188, .slice Ao32 t208.length co32] 28 (0, 0)) (by (with_reducible repeat (first | refine blk_drewN ?_ _ | refine blk_drew ?_ | refine blk_alloc ?_ _)); exact BK192.out) hb); have n7_ := Aside0.mk (blk_below (g := gb199) (o := .cells #[.string t193, .string t194, .slice Ao39 t211.length co39] 28 (0, 0)) (by (with_reducible repeat (first | refine blk_drewN ?_ _ | refine blk_drew ?_ | refine blk_alloc ?_ _)); exact BK199.out) hb); have n8_ := Aside0.mk (blk_below (g := gb224) (o := .cells #[.string t218, .string t219, .slice Ao126 t220.length co126] 28 (0, 0)) (by (with_reducible repeat (first | refine blk_drewN ?_ _ | refine blk_drew ?_ | refine blk_alloc ?_ _)); exact BK224.out) hb); have n9_ := Aside0.mk (below_step (by repeat (first | (with_reducible first | exact HB.out | apply below_alloc | apply pw_below_drewN | apply below_drew1 | refine below_set ?_ GE173.out | refine below_set ?_ GE186.out | refine below_set ?_ GE192.out | refine below_set ?_ GE199.out | refine below_set ?_ GE224.out) | exact HB.out)) hb); clear HO_187002; clear HO_193002; clear HO_200002; clear HO_225002; clear BK173; clear BK186; clear BK192; clear BK199; clear BK224; clear HB; have HO_187002 := n0_; have HO_193002 := n1_; have HO_200002 := n2_; have HO_225002 := n3_; have BK173 := n4_; have BK186 := n5_; have BK192 := n6_; have BK199 := n7_; have BK224 := n8_; have HB := n9_; clear n0_ n1_ n2_ n3_ n4_ n5_ n6_ n7_ n8_ n9_; (try clear hb); (try clear hb2); (try clear hk); (try clear hi)))
                                  go_ret
                                  exact ⟨by first | rfl | (simp [errW_none, errW_some] <;> rfl) | (simp [*, errW_none, errW_some] <;> rfl), by repeat (first | (with_reducible first | exact HB.out | apply below_alloc | apply pw_below_drewN | apply below_drew1 | refine below_set ?_ GE173.out | refine below_set ?_ GE186.out | refine below_set ?_ GE192.out | refine below_set ?_ GE199.out | refine below_set ?_ GE224.out) | exact HB.out)⟩
                                · rw [if_neg c158] at H
                                  have c158b0 : (t226 == t210) = false := beq_eq_false_iff_ne.mpr c158
                                  have c158b1 : (t226 != t210) = true := bne_iff_ne.mpr c158
                                  obtain rfl := Option.some.inj H
                                  have hnb165 := NB199_173.out
                                  have hnc165 := NB173_199.out
                                  have hnb166 := NB199_186.out
                                  have hnc166 := NB186_199.out
                                  have hnb167 := NB199_192.out
                                  have hnc167 := NB192_199.out
                                  have hnb168 := NB199_224.out
                                  have hnc168 := NB224_199.out
                                  have hcz169_0 : wc.cell? ⟨gb199, 0, none⟩ = some (.string t193) := (blk_cell BK199.out 0).trans rfl
                                  have hcz169_1 : wc.cell? ⟨gb199, 1, none⟩ = some (.string t194) := (blk_cell BK199.out 1).trans rfl
                                  have hcz169_2 : wc.cell? ⟨gb199, 2, none⟩ = some (.slice Ao39 t211.length co39) := (blk_cell BK199.out 2).trans rfl
                                  have hfz169_0 := blk_frozen BK199.out 0
                                  have hfz169_1 := blk_frozen BK199.out 1
                                  have hfz169_2 := blk_frozen BK199.out 2
                                  go_wp2_with (first | ((with_reducible refine gate_callee (f := 18) rfl ?_); refine goesL_ (some 98) rfl rfl Tryd.func18 (by kernel_rfl) rfl #[.agg #[.string t193, .string t194, .slice Ao39 t211.length co39], .int .i64 1] rfl (by (try simp only [List.map_toArray, List.map_cons, List.map_nil]); first | done | rfl | (simp only [List.length_drop, List.length_take]; rfl)) ?_; (with_reducible refine (laws_heldScheme.calls kj105 t193 t194 _ _ t211 1 t226 _ ?side1 ?side2 A150.out).mono ?_); (case side1 => repeat (first | exact (Kd.R_reads' HO_200002.out).2.2 | (with_reducible refine Kd.C_alloc ?_ _) | (with_reducible refine Kd.C_drewN ?_ _) | (with_reducible refine Kd.C_drew ?_))); (case side2 => exact (Kd.R_reads' HO_200002.out).2.1); rintro e w170 ⟨rfl, hb⟩; refine ⟨_, rfl, ?_⟩; have n0_ := Aside0.mk (Kd.R_below (by (with_reducible repeat (first | apply Kd.R_alloc | apply Kd.R_drewN | apply Kd.R_drew)); exact HO_187002.out) hb); have n1_ := Aside0.mk (Kd.R_below (by (with_reducible repeat (first | apply Kd.R_alloc | apply Kd.R_drewN | apply Kd.R_drew)); exact HO_193002.out) hb); have n2_ := Aside0.mk (Kd.R_below (by (with_reducible repeat (first | apply Kd.R_alloc | apply Kd.R_drewN | apply Kd.R_drew)); exact HO_200002.out) hb); have n3_ := Aside0.mk (Kd.R_below (by (with_reducible repeat (first | apply Kd.R_alloc | apply Kd.R_drewN | apply Kd.R_drew)); exact HO_225002.out) hb); have n4_ := Aside0.mk (blk_below (g := gb173) (o := .cells #[.string a0_0, .string a0_1, .slice A0_2 l0_2.length c0_2] 24 (0, 0)) (by (with_reducible repeat (first | refine blk_drewN ?_ _ | refine blk_drew ?_ | refine blk_alloc ?_ _)); exact BK173.out) hb); have n5_ := Aside0.mk (blk_below (g := gb186) (o := .cells #[.string t180, .string t181, .slice Ao25 t182.length co25] 28 (0, 0)) (by (with_reducible repeat (first | refine blk_drewN ?_ _ | refine blk_drew ?_ | refine blk_alloc ?_ _)); exact BK186.out) hb); have n6_ := Aside0.mk (blk_below (g := gb192) (o := .cells #[.string t187, .string t188, .slice Ao32 t208.length co32] 28 (0, 0)) (by (with_reducible repeat (first | refine blk_drewN ?_ _ | refine blk_drew ?_ | refine blk_alloc ?_ _)); exact BK192.out) hb); have n7_ := Aside0.mk (blk_below (g := gb199) (o := .cells #[.string t193, .string t194, .slice Ao39 t211.length co39] 28 (0, 0)) (by (with_reducible repeat (first | refine blk_drewN ?_ _ | refine blk_drew ?_ | refine blk_alloc ?_ _)); exact BK199.out) hb); have n8_ := Aside0.mk (blk_below (g := gb224) (o := .cells #[.string t218, .string t219, .slice Ao126 t220.length co126] 28 (0, 0)) (by (with_reducible repeat (first | refine blk_drewN ?_ _ | refine blk_drew ?_ | refine blk_alloc ?_ _)); exact BK224.out) hb); have n9_ := Aside0.mk (below_step (by repeat (first | (with_reducible first | exact HB.out | apply below_alloc | apply pw_below_drewN | apply below_drew1 | refine below_set ?_ GE173.out | refine below_set ?_ GE186.out | refine below_set ?_ GE192.out | refine below_set ?_ GE199.out | refine below_set ?_ GE224.out) | exact HB.out)) hb); clear HO_187002; clear HO_193002; clear HO_200002; clear HO_225002; clear BK173; clear BK186; clear BK192; clear BK199; clear BK224; clear HB; have HO_187002 := n0_; have HO_193002 := n1_; have HO_200002 := n2_; have HO_225002 := n3_; have BK173 := n4_; have BK186 := n5_; have BK192 := n6_; have BK199 := n7_; have BK224 := n8_; have HB := n9_; clear n0_ n1_ n2_ n3_ n4_ n5_ n6_ n7_ n8_ n9_; (try clear hb); (try clear hb2); (try clear hk); (try clear hi)))
                                  go_ret
                                  exact ⟨by first | rfl | (simp [errW_none, errW_some] <;> rfl) | (simp [*, errW_none, errW_some] <;> rfl), by repeat (first | (with_reducible first | exact HB.out | apply below_alloc | apply pw_below_drewN | apply below_drew1 | refine below_set ?_ GE173.out | refine below_set ?_ GE186.out | refine below_set ?_ GE192.out | refine below_set ?_ GE199.out | refine below_set ?_ GE224.out) | exact HB.out)⟩
                      · rw [if_neg c103] at H
                        have c103b0 : (t212 == t210) = false := beq_eq_false_iff_ne.mpr c103
                        have c103b1 : (t212 != t210) = true := bne_iff_ne.mpr c103
                        obtain rfl := Option.some.inj H
                        have hnb171 := NB199_173.out
                        have hnc171 := NB173_199.out
                        have hnb172 := NB199_186.out
                        have hnc172 := NB186_199.out
                        have hnb173 := NB199_192.out
                        have hnc173 := NB192_199.out
                        have hcz174_0 : wc.cell? ⟨gb199, 0, none⟩ = some (.string t193) := (blk_cell BK199.out 0).trans rfl
                        have hcz174_1 : wc.cell? ⟨gb199, 1, none⟩ = some (.string t194) := (blk_cell BK199.out 1).trans rfl
                        have hcz174_2 : wc.cell? ⟨gb199, 2, none⟩ = some (.slice Ao39 t195.length co39) := (blk_cell BK199.out 2).trans rfl
                        have hfz174_0 := blk_frozen BK199.out 0
                        have hfz174_1 := blk_frozen BK199.out 1
                        have hfz174_2 := blk_frozen BK199.out 2
                        go_wp2_with (first | ((with_reducible refine gate_callee (f := 17) rfl ?_); refine goesL_ (some 71) rfl rfl Tryd.func17 (by kernel_rfl) rfl #[.agg #[.string t193, .string t194, .slice Ao39 t195.length co39], .int .i64 1] rfl (by (try simp only [List.map_toArray, List.map_cons, List.map_nil]); first | done | rfl | (simp only [List.length_drop, List.length_take]; rfl)) ?_; (with_reducible refine (laws_markScheme.calls kj62 t193 t194 (fun k_ => some k_ = (.slice Ao39 t195.length co39 : Value).ownBlock) (.slice Ao39 t195.length co39) t195 1 t210 t211 w _ ?side1 ?side2 A93.out).mono ?_); (case side1 => repeat (first | (with_reducible first | exact HB.out | apply below_alloc | apply pw_below_drewN | apply below_drew1 | refine below_set ?_ GE173.out | refine below_set ?_ GE186.out | refine below_set ?_ GE192.out | refine below_set ?_ GE199.out) | exact HB.out)); (case side2 => exact Kd.R_tight rfl HO_200002.out); rintro e w175 ⟨rfl, hy0, hb, hkp⟩; refine ⟨_, rfl, ?_⟩; have n0_ := Aside0.mk (Kd.R_mono (ok' := fun k_ => some k_ ≠ (.slice Ao32 t208.length co32 : Value).ownBlock ∧ some k_ ≠ (.slice Ao39 t195.length co39 : Value).ownBlock) (Kd.R_keptB (HO_187002.out) hkp (fun k_ hk_ hs_ => (hk_.2) hs_)) (fun k_ hk_ => ⟨hk_.1.1, hk_.1.2⟩)); have n1_ := Aside0.mk (Kd.R_mono (ok' := fun k_ => some k_ ≠ (.slice Ao25 t182.length co25 : Value).ownBlock ∧ some k_ ≠ (.slice Ao39 t195.length co39 : Value).ownBlock) (Kd.R_keptB (HO_193002.out) hkp (fun k_ hk_ hs_ => (hk_.2) hs_)) (fun k_ hk_ => ⟨hk_.1.1, hk_.1.2⟩)); have n2_ := Aside0.mk (Kd.R_reok rfl hy0 (fun k_ e_ => HO_200002.out.1 k_ e_)); have n3_ := Aside0.mk (blk_kept (by (with_reducible repeat (first | refine blk_drewN ?_ _ | refine blk_drew ?_ | refine blk_alloc ?_ _)); exact BK173.out) hkp (fun hs_ => (fun e_ => (Kd.R_ne HO_200002.out BK173.out (by decide)) e_) hs_)); have n4_ := Aside0.mk (blk_kept (by (with_reducible repeat (first | refine blk_drewN ?_ _ | refine blk_drew ?_ | refine blk_alloc ?_ _)); exact BK186.out) hkp (fun hs_ => (fun e_ => (Kd.R_ne HO_200002.out BK186.out (by decide)) e_) hs_)); have n5_ := Aside0.mk (blk_kept (by (with_reducible repeat (first | refine blk_drewN ?_ _ | refine blk_drew ?_ | refine blk_alloc ?_ _)); exact BK192.out) hkp (fun hs_ => (fun e_ => (Kd.R_ne HO_200002.out BK192.out (by decide)) e_) hs_)); have n6_ := Aside0.mk (blk_kept (by (with_reducible repeat (first | refine blk_drewN ?_ _ | refine blk_drew ?_ | refine blk_alloc ?_ _)); exact BK199.out) hkp (fun hs_ => (fun e_ => (Kd.R_ne HO_200002.out BK199.out (by decide)) e_) hs_)); have n7_ := Aside0.mk (hb); clear HO_187002; clear HO_193002; clear HO_200002; clear BK173; clear BK186; clear BK192; clear BK199; clear HB; have HO_187002 := n0_; have HO_193002 := n1_; have HO_200002 := n2_; have BK173 := n3_; have BK186 := n4_; have BK192 := n5_; have BK199 := n6_; have HB := n7_; clear n0_ n1_ n2_ n3_ n4_ n5_ n6_ n7_; (try clear hb); (try clear hkp); (try clear hy0); have hcz176_0 : w175.cell? ⟨gb199, 0, none⟩ = some (.string t193) := (blk_cell BK199.out 0).trans rfl; have hcz176_1 : w175.cell? ⟨gb199, 1, none⟩ = some (.string t194) := (blk_cell BK199.out 1).trans rfl; have hcz176_2 : w175.cell? ⟨gb199, 2, none⟩ = some (.slice Ao39 t195.length co39) := (blk_cell BK199.out 2).trans rfl; have hfz176_0 := blk_frozen BK199.out 0; have hfz176_1 := blk_frozen BK199.out 1; have hfz176_2 := blk_frozen BK199.out 2) | ((with_reducible refine gate_callee (f := 18) rfl ?_); refine goesL_ (some 74) rfl rfl Tryd.func18 (by kernel_rfl) rfl #[.agg #[.string t193, .string t194, .slice Ao39 t211.length co39], .int .i64 1] rfl (by (try simp only [List.map_toArray, List.map_cons, List.map_nil]); first | done | (rw [show t211.length = t195.length from (Kd.R_reads' HO_200002.out).1.symm] <;> rfl) | rfl | (simp only [List.length_drop, List.length_take]; rfl)) ?_; (with_reducible refine (laws_heldScheme.calls kj62 t193 t194 _ _ t211 1 t212 _ ?side1 ?side2 A94.out).mono ?_); (case side1 => repeat (first | exact (Kd.R_reads' HO_200002.out).2.2 | (with_reducible refine Kd.C_alloc ?_ _) | (with_reducible refine Kd.C_drewN ?_ _) | (with_reducible refine Kd.C_drew ?_))); (case side2 => rw [show t211.length = t195.length from (Kd.R_reads' HO_200002.out).1.symm]; exact (Kd.R_reads' HO_200002.out).2.1); rintro e w177 ⟨rfl, hb⟩; refine ⟨_, rfl, ?_⟩; have n0_ := Aside0.mk (Kd.R_below (by (with_reducible repeat (first | apply Kd.R_alloc | apply Kd.R_drewN | apply Kd.R_drew)); exact HO_187002.out) hb); have n1_ := Aside0.mk (Kd.R_below (by (with_reducible repeat (first | apply Kd.R_alloc | apply Kd.R_drewN | apply Kd.R_drew)); exact HO_193002.out) hb); have n2_ := Aside0.mk (Kd.R_below (by (with_reducible repeat (first | apply Kd.R_alloc | apply Kd.R_drewN | apply Kd.R_drew)); exact HO_200002.out) hb); have n3_ := Aside0.mk (blk_below (g := gb173) (o := .cells #[.string a0_0, .string a0_1, .slice A0_2 l0_2.length c0_2] 24 (0, 0)) (by (with_reducible repeat (first | refine blk_drewN ?_ _ | refine blk_drew ?_ | refine blk_alloc ?_ _)); exact BK173.out) hb); have n4_ := Aside0.mk (blk_below (g := gb186) (o := .cells #[.string t180, .string t181, .slice Ao25 t182.length co25] 28 (0, 0)) (by (with_reducible repeat (first | refine blk_drewN ?_ _ | refine blk_drew ?_ | refine blk_alloc ?_ _)); exact BK186.out) hb); have n5_ := Aside0.mk (blk_below (g := gb192) (o := .cells #[.string t187, .string t188, .slice Ao32 t208.length co32] 28 (0, 0)) (by (with_reducible repeat (first | refine blk_drewN ?_ _ | refine blk_drew ?_ | refine blk_alloc ?_ _)); exact BK192.out) hb); have n6_ := Aside0.mk (blk_below (g := gb199) (o := .cells #[.string t193, .string t194, .slice Ao39 t195.length co39] 28 (0, 0)) (by (with_reducible repeat (first | refine blk_drewN ?_ _ | refine blk_drew ?_ | refine blk_alloc ?_ _)); exact BK199.out) hb); have n7_ := Aside0.mk (below_step (by repeat (first | (with_reducible first | exact HB.out | apply below_alloc | apply pw_below_drewN | apply below_drew1 | refine below_set ?_ GE173.out | refine below_set ?_ GE186.out | refine below_set ?_ GE192.out | refine below_set ?_ GE199.out) | exact HB.out)) hb); clear HO_187002; clear HO_193002; clear HO_200002; clear BK173; clear BK186; clear BK192; clear BK199; clear HB; have HO_187002 := n0_; have HO_193002 := n1_; have HO_200002 := n2_; have BK173 := n3_; have BK186 := n4_; have BK192 := n5_; have BK199 := n6_; have HB := n7_; clear n0_ n1_ n2_ n3_ n4_ n5_ n6_ n7_; (try clear hb); (try clear hb2); (try clear hk); (try clear hi)))
                        go_ret
                        exact ⟨by first | rfl | (simp [errW_none, errW_some] <;> rfl) | (simp [*, errW_none, errW_some] <;> rfl), by repeat (first | (with_reducible first | exact HB.out | apply below_alloc | apply pw_below_drewN | apply below_drew1 | refine below_set ?_ GE173.out | refine below_set ?_ GE186.out | refine below_set ?_ GE192.out | refine below_set ?_ GE199.out) | exact HB.out)⟩
            · replace c61 := Bool.eq_false_iff.mpr c61
              subst c61
              have H1 : (some false) = some r := by rw [if_neg (show ¬ (false = true) by decide)] at H; exact H
              clear H
              have H := H1
              clear H1
              obtain rfl := Option.some.inj H
              try go_wp2
              have n0_ := Aside0.mk (Kd.R_drew HO_187002.out)
              have n1_ := Aside0.mk (Kd.R_drew HO_193002.out)
              have n2_ := Aside0.mk (Kd.R_drew HO_200002.out)
              have n3_ := Aside0.mk (blk_drew BK173.out)
              have n4_ := Aside0.mk (blk_drew BK186.out)
              have n5_ := Aside0.mk (blk_drew BK192.out)
              have n6_ := Aside0.mk (blk_drew BK199.out)
              have n7_ := Aside0.mk (below_drew1 HB.out)
              clear HO_187002
              clear HO_193002
              clear HO_200002
              clear BK173
              clear BK186
              clear BK192
              clear BK199
              clear HB
              have HO_187002 := n0_
              have HO_193002 := n1_
              have HO_200002 := n2_
              have BK173 := n3_
              have BK186 := n4_
              have BK192 := n5_
              have BK199 := n6_
              have HB := n7_
              clear n0_ n1_ n2_ n3_ n4_ n5_ n6_ n7_
              refine start_ (n := 5) (S := fun w' => w'.cell? ⟨gb192, 0, none⟩ = some (.string t187) ∧ w'.cell? ⟨gb192, 1, none⟩ = some (.string t188) ∧ w'.cell? ⟨gb192, 2, none⟩ = some (.slice Ao32 t189.length co32) ∧ w'.cell? ⟨gb173, 0, none⟩ = some (.string a0_0) ∧ w'.cell? ⟨gb173, 1, none⟩ = some (.string a0_1) ∧ w'.cell? ⟨gb173, 2, none⟩ = some (.slice A0_2 l0_2.length c0_2)) (ds := []) #[false, false, false, false, false] (by kernel_rfl) rfl rfl ⟨(blk_cell BK192.out 0).trans rfl, (blk_cell BK192.out 1).trans rfl, (blk_cell BK192.out 2).trans rfl, (blk_cell BK173.out 0).trans rfl, (blk_cell BK173.out 1).trans rfl, (blk_cell BK173.out 2).trans rfl⟩ (fun hHeld => ?_)
              generalize wc.drew = w178 at HO_187002 HO_193002 HO_200002 BK173 BK186 BK192 BK199 HB hHeld ⊢
              refine take_ (i := 0) (N := some 48) (v := ?_) (a' := ?_) #[true, false, false, false, false] rfl rfl (by kernel_rfl) (fun _ _ _ h => h) (Or.inl ⟨by rfl, ?_⟩) hHeld ?_ ?_
              rotate_left
              · rintro w' ⟨s0, s1, s2, s3, s4, s5⟩
                go_simp
                with_reducible rfl
              rotate_left
              · simp only [Act.put, List.setIfInBounds_toArray, List.set_cons_zero, List.set_cons_succ, i64_w, i32_w]
                rfl
              refine take_ (i := 1) (N := some 49) (v := ?_) (a' := ?_) #[true, true, false, false, false] rfl rfl (by kernel_rfl) (fun _ _ _ h => h) (Or.inl ⟨by rfl, ?_⟩) hHeld ?_ ?_
              rotate_left
              · rintro w' ⟨s0, s1, s2, s3, s4, s5⟩
                go_simp
                with_reducible rfl
              rotate_left
              · simp only [Act.put, List.setIfInBounds_toArray, List.set_cons_zero, List.set_cons_succ, i64_w, i32_w]
                rfl
              refine one_ (i := 2) (N := some 50) #[true, true, true, false, false] rfl rfl (by kernel_rfl) (by decide) (fun K hK => ?_)
              refine goes_ Tryd.func12 (by kernel_rfl) rfl #[.agg #[.string a0_0, .string a0_1, .slice A0_2 l0_2.length c0_2]] (by rfl) rfl rfl (by (try simp only [List.map_toArray, List.map_cons, List.map_nil]); first | done | rfl | (simp only [List.length_drop, List.length_take]; rfl)) ?_
              with_reducible refine (laws_toScheme.calls kj13 a0_0 a0_1 _ _ l0_2 t201 t202 t203 _ ?side1 ?side2 A59.out).mono ?_
              (case side1 => repeat (first | exact (Kd.C_below HR0_2.out HB.out) | (with_reducible refine Kd.C_alloc ?_ _) | (with_reducible refine Kd.C_drewN ?_ _) | (with_reducible refine Kd.C_drew ?_)))
              (case side2 => exact HC0_2.out)
              rintro e w179 ⟨v204, rfl, ho0, hb⟩
              refine ⟨_, rfl, ?_⟩
              have n0_ := Aside0.mk (Kd.R_elder' (by (with_reducible repeat (first | apply Kd.R_alloc | apply Kd.R_drewN | apply Kd.R_drew)); exact HO_187002.out) (Kd.R_base ho0) hb)
              have n1_ := Aside0.mk (Kd.R_elder' (by (with_reducible repeat (first | apply Kd.R_alloc | apply Kd.R_drewN | apply Kd.R_drew)); exact HO_193002.out) (Kd.R_base ho0) hb)
              have n2_ := Aside0.mk (Kd.R_elder' (by (with_reducible repeat (first | apply Kd.R_alloc | apply Kd.R_drewN | apply Kd.R_drew)); exact HO_200002.out) (Kd.R_base ho0) hb)
              have n3_ := Aside0.mk (Kd.R_lower (Kd.R_new' (Kd.R_new' (Kd.R_new' ho0 (Kd.R_lt (by (with_reducible repeat (first | apply Kd.R_alloc | apply Kd.R_drewN | apply Kd.R_drew)); exact HO_187002.out))) (Kd.R_lt (by (with_reducible repeat (first | apply Kd.R_alloc | apply Kd.R_drewN | apply Kd.R_drew)); exact HO_193002.out))) (Kd.R_lt (by (with_reducible repeat (first | apply Kd.R_alloc | apply Kd.R_drewN | apply Kd.R_drew)); exact HO_200002.out))) (below_size (by repeat (first | (with_reducible first | exact HB.out | apply below_alloc | apply pw_below_drewN | apply below_drew1 | refine below_set ?_ GE173.out | refine below_set ?_ GE186.out | refine below_set ?_ GE192.out | refine below_set ?_ GE199.out) | exact HB.out))))
              have n4_ := Aside0.mk (blk_below (g := gb173) (o := .cells #[.string a0_0, .string a0_1, .slice A0_2 l0_2.length c0_2] 24 (0, 0)) (by (with_reducible repeat (first | refine blk_drewN ?_ _ | refine blk_drew ?_ | refine blk_alloc ?_ _)); exact BK173.out) hb)
              have n5_ := Aside0.mk (blk_below (g := gb186) (o := .cells #[.string t180, .string t181, .slice Ao25 t182.length co25] 28 (0, 0)) (by (with_reducible repeat (first | refine blk_drewN ?_ _ | refine blk_drew ?_ | refine blk_alloc ?_ _)); exact BK186.out) hb)
              have n6_ := Aside0.mk (blk_below (g := gb192) (o := .cells #[.string t187, .string t188, .slice Ao32 t189.length co32] 28 (0, 0)) (by (with_reducible repeat (first | refine blk_drewN ?_ _ | refine blk_drew ?_ | refine blk_alloc ?_ _)); exact BK192.out) hb)
              have n7_ := Aside0.mk (blk_below (g := gb199) (o := .cells #[.string t193, .string t194, .slice Ao39 t195.length co39] 28 (0, 0)) (by (with_reducible repeat (first | refine blk_drewN ?_ _ | refine blk_drew ?_ | refine blk_alloc ?_ _)); exact BK199.out) hb)
              have n8_ := Aside0.mk (below_step (by repeat (first | (with_reducible first | exact HB.out | apply below_alloc | apply pw_below_drewN | apply below_drew1 | refine below_set ?_ GE173.out | refine below_set ?_ GE186.out | refine below_set ?_ GE192.out | refine below_set ?_ GE199.out) | exact HB.out)) hb)
              clear HO_187002
              clear HO_193002
              clear HO_200002
              clear BK173
              clear BK186
              clear BK192
              clear BK199
              clear HB
              have HO_187002 := n0_
              have HO_193002 := n1_
              have HO_200002 := n2_
              have HO205 := n3_
              have BK173 := n4_
              have BK186 := n5_
              have BK192 := n6_
              have BK199 := n7_
              have HB := n8_
              clear n0_ n1_ n2_ n3_ n4_ n5_ n6_ n7_ n8_
              (try clear hb)
              (try clear hb2)
              (try clear hk)
              (try clear hi)
              (try clear ho0)
              obtain ⟨Ao180, co180, eo180⟩ := Kd.R_slice HO205.out
              (first | subst eo180 | (injection eo180 with f1_ f2_ f3_; have f4_ := f1_.symm; have f5_ := f3_.symm; clear f1_ f2_ f3_; subst f4_; subst f5_))
              refine hK.out _ _ ⟨(blk_cell BK192.out 0).trans rfl, (blk_cell BK192.out 1).trans rfl, (blk_cell BK192.out 2).trans rfl, (blk_cell BK173.out 0).trans rfl, (blk_cell BK173.out 1).trans rfl, (blk_cell BK173.out 2).trans rfl⟩ (fun hHeld => ?_)
              clear hK K
              refine norm_ (a' := ?_) ?_ ?_
              rotate_left
              · show Act.put _ (some 50) _ = _
                simp only [Act.put, List.setIfInBounds_toArray, List.set_cons_zero, List.set_cons_succ, i64_w, i32_w]
                rfl
              refine one_ (i := 3) (N := some 51) #[true, true, true, true, false] rfl rfl (by kernel_rfl) (by decide) (fun K hK => ?_)
              refine goes_ Tryd.func14 (by kernel_rfl) rfl #[.agg #[.string t187, .string t188, .slice Ao32 t189.length co32], .agg #[.string t201, .string t202, .slice Ao180 t203.length co180]] (by rfl) rfl rfl (by (try simp only [List.map_toArray, List.map_cons, List.map_nil]); first | done | rfl | (simp only [List.length_drop, List.length_take]; rfl)) ?_
              with_reducible refine (laws_eqScheme.calls kj13 t187 t188 _ _ t189 t201 t202 _ _ t203 false _ ?side1 ?side2 ?side3 ?side4 A60.out).mono ?_
              (case side1 => repeat (first | exact (Kd.R_reads' HO_193002.out).2.2 | (with_reducible refine Kd.C_alloc ?_ _) | (with_reducible refine Kd.C_drewN ?_ _) | (with_reducible refine Kd.C_drew ?_)))
              (case side2 => exact (Kd.R_reads' HO_193002.out).2.1)
              (case side3 => repeat (first | exact (Kd.R_reads' HO205.out).2.2 | (with_reducible refine Kd.C_alloc ?_ _) | (with_reducible refine Kd.C_drewN ?_ _) | (with_reducible refine Kd.C_drew ?_)))
              (case side4 => exact (Kd.R_reads' HO205.out).2.1)
              rintro e w181 ⟨rfl, hb⟩
              refine ⟨_, rfl, ?_⟩
              have n0_ := Aside0.mk (Kd.R_below (by (with_reducible repeat (first | apply Kd.R_alloc | apply Kd.R_drewN | apply Kd.R_drew)); exact HO_187002.out) hb)
              have n1_ := Aside0.mk (Kd.R_below (by (with_reducible repeat (first | apply Kd.R_alloc | apply Kd.R_drewN | apply Kd.R_drew)); exact HO_193002.out) hb)
              have n2_ := Aside0.mk (Kd.R_below (by (with_reducible repeat (first | apply Kd.R_alloc | apply Kd.R_drewN | apply Kd.R_drew)); exact HO_200002.out) hb)
              have n3_ := Aside0.mk (Kd.R_below (by (with_reducible repeat (first | apply Kd.R_alloc | apply Kd.R_drewN | apply Kd.R_drew)); exact HO205.out) hb)
              have n4_ := Aside0.mk (blk_below (g := gb173) (o := .cells #[.string a0_0, .string a0_1, .slice A0_2 l0_2.length c0_2] 24 (0, 0)) (by (with_reducible repeat (first | refine blk_drewN ?_ _ | refine blk_drew ?_ | refine blk_alloc ?_ _)); exact BK173.out) hb)
              have n5_ := Aside0.mk (blk_below (g := gb186) (o := .cells #[.string t180, .string t181, .slice Ao25 t182.length co25] 28 (0, 0)) (by (with_reducible repeat (first | refine blk_drewN ?_ _ | refine blk_drew ?_ | refine blk_alloc ?_ _)); exact BK186.out) hb)
              have n6_ := Aside0.mk (blk_below (g := gb192) (o := .cells #[.string t187, .string t188, .slice Ao32 t189.length co32] 28 (0, 0)) (by (with_reducible repeat (first | refine blk_drewN ?_ _ | refine blk_drew ?_ | refine blk_alloc ?_ _)); exact BK192.out) hb)
              have n7_ := Aside0.mk (blk_below (g := gb199) (o := .cells #[.string t193, .string t194, .slice Ao39 t195.length co39] 28 (0, 0)) (by (with_reducible repeat (first | refine blk_drewN ?_ _ | refine blk_drew ?_ | refine blk_alloc ?_ _)); exact BK199.out) hb)
              have n8_ := Aside0.mk (below_step (by repeat (first | (with_reducible first | exact HB.out | apply below_alloc | apply pw_below_drewN | apply below_drew1 | refine below_set ?_ GE173.out | refine below_set ?_ GE186.out | refine below_set ?_ GE192.out | refine below_set ?_ GE199.out) | exact HB.out)) hb)
              clear HO_187002
              clear HO_193002
              clear HO_200002
              clear HO205
              clear BK173
              clear BK186
              clear BK192
              clear BK199
              clear HB
              have HO_187002 := n0_
              have HO_193002 := n1_
              have HO_200002 := n2_
              have HO205 := n3_
              have BK173 := n4_
              have BK186 := n5_
              have BK192 := n6_
              have BK199 := n7_
              have HB := n8_
              clear n0_ n1_ n2_ n3_ n4_ n5_ n6_ n7_ n8_
              (try clear hb)
              (try clear hb2)
              (try clear hk)
              (try clear hi)
              refine hK.out _ _ ⟨(blk_cell BK192.out 0).trans rfl, (blk_cell BK192.out 1).trans rfl, (blk_cell BK192.out 2).trans rfl, (blk_cell BK173.out 0).trans rfl, (blk_cell BK173.out 1).trans rfl, (blk_cell BK173.out 2).trans rfl⟩ (fun hHeld => ?_)
              clear hK K
              refine norm_ (a' := ?_) ?_ ?_
              rotate_left
              · show Act.put _ (some 51) _ = _
                simp only [Act.put, List.setIfInBounds_toArray, List.set_cons_zero, List.set_cons_succ, i64_w, i32_w]
                rfl
              refine pure_ (i := 4) (N := some 52) (v := ?_) (a' := ?_) #[true, true, true, true, true] rfl rfl (by kernel_rfl) (fun _ _ _ h => h) (Or.inl ⟨by rfl, ?_⟩) ?_ ?_
              rotate_left
              · intro w'
                go_simp
                with_reducible rfl
              rotate_left
              · simp only [Act.put, List.setIfInBounds_toArray, List.set_cons_zero, List.set_cons_succ, i64_w, i32_w]
                rfl
              refine done_ (by kernel_rfl) ?_
              try go_wp2
              go_ret
              exact ⟨by first | rfl | (simp [errW_none, errW_some] <;> rfl) | (simp [*, errW_none, errW_some] <;> rfl), by repeat (first | (with_reducible first | exact HB.out | apply below_alloc | apply pw_below_drewN | apply below_drew1 | refine below_set ?_ GE173.out | refine below_set ?_ GE186.out | refine below_set ?_ GE192.out | refine below_set ?_ GE199.out) | exact HB.out)⟩

end Go.Proofs.YtmplmfoacnnieaaDoor.PFnExactAddWord
