-- Laid by a program of this session (wip/myprint.py) out of the translation; some contracts in it are the session's own.
import Derived.Test.YtmplmfoacnnieaaDoorPFnExactCountPlatesx0
import Derived.Test.YtmplmfoacnnieaaDoorPFnExactCountPlatesx2
import Derived.Test.YtmplmfoacnnieaaDoorPFnExactCountPlatesx3
import Derived.Test.YtmplmfoacnnieaaDoorPFnExactCountPlatesx4
namespace Go.Proofs.YtmplmfoacnnieaaDoor.PFnExactCountPlates
open Go.RowKit Go.Proofs.YtmplmfoacnnieaaDoorW.PrintWords Go.Proofs.YtmplmfoacnnieaaDoorW.PrintLast Go.Proofs.YtmplmfoacnnieaaDoorW.PrintMore
attribute [local go_sem] max2_int min2_int max_two min_two max_three min_three max_four min_four   -- for this text's walks alone
set_option linter.unusedVariables false
set_option linter.unusedSimpArgs false

/-! ### spec_plFrom: function 45 -/
-- --making --rounds
def sgnT (p : ByteArray) (at_ : Int) : ByteArray := if bt p at_ = 76 then ⟨#[65, 66, 67, 68, 69, 70, 71, 72, 73, 74, 75, 76, 77, 78, 79, 80, 81, 82, 83, 84, 85, 86, 87, 88, 89, 90]⟩ else ⟨#[48, 49, 50, 51, 52, 53, 54, 55, 56, 57]⟩
def celD (k : Nat) (p b : ByteArray) (ws st : List ByteArray) (ways : List Int) (sg s : ByteArray) (i : Nat) : Nat → Nat → List Int → Option (List Int)
  | 0, _, nx => some nx
  | d + 1, q, nx => (spec_plHas.f k b (sg.extract q (q + 1))).bind fun h => if h = true then celD k p b ws st ways sg s i d (q + 1) nx else
      (spec_plClean.f k p b ws (s ++ sg.extract q (q + 1))).bind fun c => if c = true then (spec_plState.f p b ws (s ++ sg.extract q (q + 1))).bind fun z => (spec_plIndex.f k st z).bind fun ix => if 0 ≤ ix ∧ ix < (ways.length : Int) then celD k p b ws st ways sg s i d (q + 1) (nx.set i (wrap64 (rd nx (i : Int) + rd ways ix))) else none
      else celD k p b ws st ways sg s i d (q + 1) nx
def rowD (k : Nat) (p b : ByteArray) (ws st : List ByteArray) (ways : List Int) (sg : ByteArray) : Nat → Nat → List Int → Option (List Int)
  | 0, _, nx => some nx
  | d + 1, i, nx => if (rdOf ByteArray.empty st (i : Int)).size ≤ 1000 then (celD k p b ws st ways sg (rdOf ByteArray.empty st (i : Int)) i sg.size 0 nx).bind fun nx' => rowD k p b ws st ways sg d (i + 1) nx' else none
def dpD (k : Nat) (p b : ByteArray) (ws st : List ByteArray) : Nat → List Int → Option (List Int)
  | 0, ways => some ways
  | at_ + 1, ways => (rowD k p b ws st ways (sgnT p (at_ : Int)) st.length 0 (List.replicate st.length 0)).bind fun nx => dpD k p b ws st at_ nx
def spec_plFrom.f (k : Nat) (p b : ByteArray) (ws : List ByteArray) (a1 : ByteArray) : Option Int := if a1.size = 0 ∧ p.size ≤ 100 then
  (spec_plFits.f k p b ws a1).bind fun t1 => if t1 = true then (spec_plClean.f k p b ws a1).bind fun t2 => if t2 = true then
    (spec_plStates.f k p b ws).bind fun st => if st.length ≤ 1048576 then (dpD k p b ws st p.size (List.replicate st.length 1)).bind fun ways => (spec_plState.f p b ws a1).bind fun z => (spec_plIndex.f k st z).bind fun ix => if 0 ≤ ix ∧ ix < (ways.length : Int) then some (rd ways ix) else none else none
  else some 0 else some 0 else none
/-- Block B's first n cells are the ints xs, and none of them is frozen. -/
def RowI (W : World) (B n : Nat) (xs : List Int) : Prop :=
  B < W.heap.size ∧ xs.length = n ∧ (∀ j : Nat, j < n → W.cell? ⟨B, j, none⟩ = some (.int .i64 (rd xs j))) ∧ (∀ j : Nat, j < n → W.frozen? ⟨B, j, none⟩ = false)
theorem rowI_set {W : World} {B n : Nat} {xs : List Int} (h : RowI W B n xs) (i : Nat) (hi : i < n) (v : Int) :
    RowI (W.setCell ⟨B, i, none⟩ (.int .i64 v)) B n (xs.set i v) := by
  obtain ⟨h0, h1, h2, h3⟩ := h
  refine ⟨by simpa [World.setCell] using h0, by simpa using h1, fun j hj => ?_, fun j hj => ?_⟩
  · by_cases e : j = i
    · subst e
      rw [World.cell?_setCell_same (h := h2 j hj)]
      have : j < xs.length := by omega
      simp [rd, this]
    · rw [World.cell?_setCell_other (w := W) (a := ⟨B, i, none⟩) (b := ⟨B, j, none⟩) (h := fun c => e (congrArg Addr.off c).symm), h2 j hj]
      have e' : ¬ i = j := fun c => e c.symm
      simp [rd, List.getD_eq_getElem?_getD, List.getElem?_set, e']
  · rw [World.frozen?_setCell]; exact h3 j hj
theorem rowI_block {W W' : World} {B n : Nat} {xs : List Int} (h : RowI W B n xs) (hb : W'.heap[B]? = W.heap[B]?) : RowI W' B n xs := by
  obtain ⟨h0, h1, h2, h3⟩ := h
  have hs : B < W'.heap.size := by
    rcases Nat.lt_or_ge B W'.heap.size with h | h
    · exact h
    · rw [Array.getElem?_eq_none h] at hb
      rw [Array.getElem?_eq_getElem h0] at hb
      cases hb
  exact ⟨hs, h1, fun j hj => (World.cell?_of_block (w := W) hb).trans (h2 j hj), fun j hj => (World.frozen?_of_block (w := W) hb).trans (h3 j hj)⟩
theorem below_cell_ {w w' : World} {a : Addr} {v : Value} (hb : Below w.heap.size w w') (h : w.cell? a = some v) : w'.cell? a = some v := (hb.cell (World.block_lt_of_cell? w _ h)).trans h
theorem rowI_below {W W' : World} {B n : Nat} {xs : List Int} (h : RowI W B n xs) (hb : Below W.heap.size W W') : RowI W' B n xs := rowI_block h (hb.block B h.1)
def mkW (W : World) (n : Nat) : World := W.alloc (.cells (madeCells #[.int .i64 0] n) 3)
theorem run_mk (W : World) (n : Nat) (h : n ≤ 1048576) : (Instr.makeSlice 43 (.int .i64 (n : Int)) (.int .i64 (n : Int))).run Tryd.prog W = .ok (.slice (some ⟨W.heap.size, 0, none⟩) n n) (mkW W n) := by
  have hall : (Tryd.prog.info? 3).map (fun i => (i.zero, i.size, i.bytes)) = some (some (.int .i64 0), 1, 8) := by kernel_rfl
  obtain ⟨i, hi, he⟩ := Option.map_eq_some_iff.mp hall
  rw [Prod.mk.injEq, Prod.mk.injEq] at he
  obtain ⟨hz, hs, hb⟩ := he
  have := run_makeSlice (P := Tryd.prog) W 43 3 i (.int .i64 0) Tryd.underlying43 hi hz .i64 .i64 (n : Int) (n : Int) (by omega) (Int.le_refl _) (by rw [hs]; omega) (by rw [hb]; omega) (by omega)
  rw [hs] at this
  simpa [mkW, Value.cells] using this
theorem rowI_mk (W : World) (n : Nat) : RowI (mkW W n) W.heap.size n (List.replicate n 0) := by
  refine ⟨by simp [mkW], List.length_replicate .., fun j hj => ?_, fun j hj => blk_frozen (heap_alloc_last W (.cells _ 3)) j⟩
  have h := blk_cell (heap_alloc_last W (.cells (madeCells #[.int .i64 0] n) 3)) j
  refine h.trans ?_
  have : rd (List.replicate n 0) (j : Int) = 0 := by
    unfold rd
    rw [List.getD_eq_getElem?_getD]
    simp only [Int.toNat_natCast, List.getElem?_replicate]
    split <;> rfl
  rw [this]
  simp [madeCells, hj, Nat.mod_one]
theorem below_mk (W : World) (n : Nat) : Below W.heap.size W (mkW W n) := (Below.refl _ W).alloc (Nat.le_refl _) _
set_option maxHeartbeats 8000000 in
set_option maxRecDepth 100000 in
theorem spec_plFrom.calls (k : Nat) (a0_0 : ByteArray) (a0_1 : ByteArray) (A0_2 : Option Addr) (c0_2 : Nat) (l0_2 : List ByteArray) (a1 : ByteArray) (r : Int) (w : World) (hr0_2 : Kd.C Kd.string w A0_2 l0_2.length l0_2) (hc0_2 : l0_2.length ≤ c0_2) (h : spec_plFrom.f k a0_0 a0_1 l0_2 a1 = some r) :
    Calls Tryd.prog 45 #[.agg #[.string a0_0, .string a0_1, .slice A0_2 l0_2.length c0_2], .string a1] w fun e w' => e = .returned (.int .i64 r) ∧ Below w.heap.size w w' := by
  unfold spec_plFrom.f at h
  by_cases hsm : a1.size = 0 ∧ a0_0.size ≤ 100
  case neg => rw [if_neg hsm] at h; cases h
  rw [if_pos hsm] at h
  obtain ⟨ha1, hp⟩ := hsm
  replace h := Option.bind_eq_some_iff.mp h
  obtain ⟨t1, ht1, h⟩ := h
  have HFITS := Aside0.mk (fun (W : World) (hW : Below w.heap.size w W) => spec_plFits.calls k a0_0 a0_1 A0_2 c0_2 l0_2 a1 t1 W (Kd.C_below hr0_2 hW) hc0_2 ht1)
  clear ht1
  cases t1 with
  | false =>
    rw [if_neg (by decide)] at h
    obtain rfl := Option.some.inj h
    clear h hr0_2 hc0_2
    go_enter Tryd.func45, Tryd.ntmps45
    go_wp2_with (first | ((with_reducible refine gate_dst (N := 2) rfl ?_); refine box_event ?hg (N := 2) ?hd (cs := #[.string a0_0, .string a0_1, .slice A0_2 l0_2.length c0_2]) (t := 28) ?hr ?_; (case hd => rfl); (case hg => rfl); (case hr => first | (go_simp; done) | (go_simp; rfl)); intro B2 hg3 w3 hx3 hb3; have HG3 := Aside0.mk hg3; have HX3 := Aside0.mk hx3; have HB3 := Aside0.mk hb3; have hc30 := (blk_cell hx3 0).trans rfl; have hc31 := (blk_cell hx3 1).trans rfl; have hc32 := (blk_cell hx3 2).trans rfl; clear hx3 hb3 hg3) | (go_at_call 59; refine (HFITS.out _ HB3.out).mono ?_; rintro e4 w4 ⟨rfl, hb4⟩; have HX4 := Aside0.mk (blk_below HX3.out hb4); have HB4 := Aside0.mk (HB3.out.trans (hb4.mono HB3.out.size)); have hc40 := (blk_cell HX4.out 0).trans rfl; have hc41 := (blk_cell HX4.out 1).trans rfl; have hc42 := (blk_cell HX4.out 2).trans rfl; clear hb4 hc30 hc31 hc32))
    go_ret
    exact ⟨rfl, HB4.out⟩
  | true =>
    rw [if_pos rfl] at h
    replace h := Option.bind_eq_some_iff.mp h
    obtain ⟨t2, ht2, h⟩ := h
    have HCL := Aside0.mk (fun (W : World) (hW : Below w.heap.size w W) => spec_plClean.calls k a0_0 a0_1 A0_2 c0_2 l0_2 a1 t2 W (Kd.C_below hr0_2 hW) hc0_2 ht2)
    clear ht2
    cases t2 with
    | false =>
      rw [if_neg (by decide)] at h
      obtain rfl := Option.some.inj h
      clear h hr0_2 hc0_2
      go_enter Tryd.func45, Tryd.ntmps45
      go_wp2_with (first | ((with_reducible refine gate_dst (N := 2) rfl ?_); refine box_event ?hg (N := 2) ?hd (cs := #[.string a0_0, .string a0_1, .slice A0_2 l0_2.length c0_2]) (t := 28) ?hr ?_; (case hd => rfl); (case hg => rfl); (case hr => first | (go_simp; done) | (go_simp; rfl)); intro B2 hg3 w3 hx3 hb3; have HG3 := Aside0.mk hg3; have HX3 := Aside0.mk hx3; have HB3 := Aside0.mk hb3; have hc30 := (blk_cell hx3 0).trans rfl; have hc31 := (blk_cell hx3 1).trans rfl; have hc32 := (blk_cell hx3 2).trans rfl; clear hx3 hb3 hg3) | (go_at_call 59; refine (HFITS.out _ HB3.out).mono ?_; rintro e4 w4 ⟨rfl, hb4⟩; have HX4 := Aside0.mk (blk_below HX3.out hb4); have HB4 := Aside0.mk (HB3.out.trans (hb4.mono HB3.out.size)); have hc40 := (blk_cell HX4.out 0).trans rfl; have hc41 := (blk_cell HX4.out 1).trans rfl; have hc42 := (blk_cell HX4.out 2).trans rfl; clear hb4 hc30 hc31 hc32) | (go_at_call 60; refine (HCL.out _ HB4.out).mono ?_; rintro e5 w5 ⟨rfl, hb5⟩; have HX5 := Aside0.mk (blk_below HX4.out hb5); have HB5 := Aside0.mk (HB4.out.trans (hb5.mono HB4.out.size)); have hc50 := (blk_cell HX5.out 0).trans rfl; have hc51 := (blk_cell HX5.out 1).trans rfl; have hc52 := (blk_cell HX5.out 2).trans rfl; clear hb5 hc40 hc41 hc42))
      go_ret
      exact ⟨rfl, HB5.out⟩
    | true =>
      rw [if_pos rfl] at h
      replace h := Option.bind_eq_some_iff.mp h
      obtain ⟨st, hst, h⟩ := h
      have HST := Aside0.mk (fun (W : World) (hW : Below w.heap.size w W) => spec_plStates.calls k a0_0 a0_1 A0_2 c0_2 l0_2 st W (Kd.C_below hr0_2 hW) hc0_2 hst)
      clear hst
      by_cases hsl : st.length ≤ 1048576
      case neg => rw [if_neg hsl] at h; cases h
      rw [if_pos hsl] at h
      replace h := Option.bind_eq_some_iff.mp h
      obtain ⟨ways, hdp, h⟩ := h
      replace h := Option.bind_eq_some_iff.mp h
      obtain ⟨z, hz, h⟩ := h
      replace h := Option.bind_eq_some_iff.mp h
      obtain ⟨ix, hix, h⟩ := h
      have HDP := Aside0.mk hdp
      have HEND := Aside0.mk (And.intro hz (And.intro hix h))
      have HR := Aside0.mk (And.intro hr0_2 hc0_2)
      clear hdp hz hix h hr0_2 hc0_2
      have hmk := fun W : World => run_mk W st.length hsl
      go_enter Tryd.func45, Tryd.ntmps45
      go_wp2_with (first | ((with_reducible refine gate_dst (N := 2) rfl ?_); refine box_event ?hg (N := 2) ?hd (cs := #[.string a0_0, .string a0_1, .slice A0_2 l0_2.length c0_2]) (t := 28) ?hr ?_; (case hd => rfl); (case hg => rfl); (case hr => first | (go_simp; done) | (go_simp; rfl)); intro B2 hg3 w3 hx3 hb3; have HG3 := Aside0.mk hg3; have HX3 := Aside0.mk hx3; have HB3 := Aside0.mk hb3; have hc30 := (blk_cell hx3 0).trans rfl; have hc31 := (blk_cell hx3 1).trans rfl; have hc32 := (blk_cell hx3 2).trans rfl; clear hx3 hb3 hg3) | (go_at_call 59; refine (HFITS.out _ HB3.out).mono ?_; rintro e4 w4 ⟨rfl, hb4⟩; have HX4 := Aside0.mk (blk_below HX3.out hb4); have HB4 := Aside0.mk (HB3.out.trans (hb4.mono HB3.out.size)); have hc40 := (blk_cell HX4.out 0).trans rfl; have hc41 := (blk_cell HX4.out 1).trans rfl; have hc42 := (blk_cell HX4.out 2).trans rfl; clear hb4 hc30 hc31 hc32) | (go_at_call 60; refine (HCL.out _ HB4.out).mono ?_; rintro e5 w5 ⟨rfl, hb5⟩; have HX5 := Aside0.mk (blk_below HX4.out hb5); have HB5 := Aside0.mk (HB4.out.trans (hb5.mono HB4.out.size)); have hc50 := (blk_cell HX5.out 0).trans rfl; have hc51 := (blk_cell HX5.out 1).trans rfl; have hc52 := (blk_cell HX5.out 2).trans rfl; clear hb5 hc40 hc41 hc42) | (go_at_call 67; refine (HST.out _ HB5.out).mono ?_; rintro e6 w6 ⟨v6, rfl, hR6, hb6⟩; obtain ⟨As, cs, rfl, hcs, -⟩ := Kd.R_reads hR6; have HCS := Aside0.mk hcs; clear hcs; have HR6 := Aside0.mk hR6; have HX6 := Aside0.mk (blk_below HX5.out hb6); have HB6 := Aside0.mk (HB5.out.trans (hb6.mono HB5.out.size)); clear hR6 hb6 hc50 hc51 hc52))
      clear HX3 HB3 HX4 HB4 HX5 HB5 HFITS HCL HST
      have HM6 := Aside0.mk (rowI_mk w6 st.length)
      have HB7 := Aside0.mk (HB6.out.trans ((below_mk w6 st.length).mono HB6.out.size))
      have HX7 := Aside0.mk (blk_below HX6.out (below_mk w6 st.length))
      have HR7 := Aside0.mk (Kd.R_below HR6.out (below_mk w6 st.length))
      have HG7 := Aside0.mk (show w.heap.size ≤ w6.heap.size ∧ B2 ≠ w6.heap.size from ⟨HB6.out.size, by have := blk_lt HX6.out; omega⟩)
      go_loopg [32] st.length (fun d v32 w' => ∃ (i : Nat) (xs : List Int), v32 = .int .i64 (i : Int) ∧ Aside0 (i + d = st.length) ∧ Aside0 (RowI w' w6.heap.size st.length xs ∧ ∀ j : Nat, j < i → rd xs (j : Int) = 1) ∧ Aside0 (Below w.heap.size w w' ∧ Below w6.heap.size w6 w'))
      case atStart => exact ⟨0, _, rfl, ⟨by omega⟩, ⟨HM6.out, fun j hj => absurd hj (Nat.not_lt_zero j)⟩, ⟨HB7.out, below_mk w6 st.length⟩⟩
      case round =>
        clear HM6 HB7 HX7 HR7
        obtain ⟨i, xs, rfl, HI, HW, HB⟩ := hrel
        cases gk with
        | succ d =>
          have hi : i < st.length := by have := HI.out; omega
          have hii : (i : Int) < (st.length : Int) := by omega
          have hcell := HW.out.1.2.2.1 i hi
          have hfr := HW.out.1.2.2.2 i hi
          have HRS := Aside0.mk (rowI_set HW.out.1 i hi 1)
          go_wp2
          go_roundg d
          case measure => omega
          case rel => exact ⟨i + 1, xs.set i 1, rfl, ⟨by have := HI.out; omega⟩, ⟨HRS.out, fun j hj => by
            have hl := HW.out.1.2.1
            by_cases e : j = i
            · subst e
              have : j < xs.length := by omega
              simp [rd, this]
            · have e' : ¬ i = j := fun c => e c.symm
              have := HW.out.2 j (by omega)
              simpa [rd, List.getD_eq_getElem?_getD, List.getElem?_set, e'] using this⟩, ⟨HB.out.1.setCell HG7.out.1 _, HB.out.2.setCell (Nat.le_refl _) _⟩⟩
        | zero =>
          have hii : ¬ (i : Int) < (st.length : Int) := by have := HI.out; omega
          have HX8 := Aside0.mk (blk_below HX6.out HB.out.2)
          have HR8 := Aside0.mk (Kd.R_below HR6.out HB.out.2)
          have hc80 : wr.cell? ⟨B2, 0, none⟩ = some (.string a0_0) := (blk_cell HX8.out 0).trans rfl
          have HW8 := Aside0.mk (show RowI wr w6.heap.size st.length (List.replicate st.length 1) by
            have h1 := HW.out.1
            have : xs = List.replicate st.length 1 := by
              refine List.ext_getElem (by rw [h1.2.1, List.length_replicate]) fun j q1 q2 => ?_
              have h2 := HW.out.2 j (by have := HI.out; have := h1.2.1; omega)
              simp [rd, q1] at h2
              simpa using h2
            rwa [this] at h1)
          clear HW
          go_wp2
          clear HX8 HR8 hc80
          have HHR := Aside0.mk (show ∀ W : World, Below w6.heap.size w6 W → W.heap[B2]? = some (.cells #[.string a0_0, .string a0_1, .slice A0_2 l0_2.length c0_2] 28 (0, 0)) ∧ Kd.string.C W As st.length st from fun W hW => ⟨blk_below HX6.out hW, (Kd.R_reads' (Kd.R_below HR6.out hW)).2.2⟩)
          clear HX6 HR6
          go_loopg [6, 8] a0_0.size (fun d v6 v8 w' => ∃ (Bw : Nat) (ways0 : List Int), v6 = .slice (some ⟨Bw, 0, none⟩) st.length st.length ∧ v8 = .int .i64 ((d : Int) - 1) ∧ Aside0 (d ≤ a0_0.size ∧ dpD k a0_0 a0_1 l0_2 st d ways0 = some ways) ∧ Aside0 (RowI w' Bw st.length ways0 ∧ w6.heap.size ≤ Bw) ∧ Aside0 (Below w.heap.size w w' ∧ Below w6.heap.size w6 w'))
          case atStart => exact ⟨w6.heap.size, List.replicate st.length 1, rfl, rfl, ⟨Nat.le_refl _, HDP.out⟩, ⟨HW8.out, Nat.le_refl _⟩, HB⟩
          case round =>
            clear HW8 HB HDP
            obtain ⟨Bw, ways0, rfl, rfl, HD, HW, HB⟩ := hrel
            have HX8 := Aside0.mk (HHR.out wr HB.out.2).1
            have hc80 : wr.cell? ⟨B2, 0, none⟩ = some (.string a0_0) := (blk_cell HX8.out 0).trans rfl
            have hc81 : wr.cell? ⟨B2, 1, none⟩ = some (.string a0_1) := (blk_cell HX8.out 1).trans rfl
            have hc82 : wr.cell? ⟨B2, 2, none⟩ = some (.slice A0_2 l0_2.length c0_2) := (blk_cell HX8.out 2).trans rfl
            cases gk with
            | zero =>
              have hE : ways0 = ways := Option.some.inj HD.out.2
              obtain ⟨hz, hix, hr⟩ := HEND.out
              by_cases hixr : 0 ≤ ix ∧ ix < (ways.length : Int)
              case neg => rw [if_neg hixr] at hr; cases hr
              rw [if_pos hixr] at hr
              obtain ⟨jx, hjx⟩ : ∃ jx : Nat, ix = (jx : Int) := ⟨ix.toNat, by have := hixr.1; omega⟩
              subst hjx
              have hE2 := Option.some.inj hr
              subst hE
              have hjl : jx < st.length := by have h1 := hixr.2; have h2 := HW.out.1.2.1; omega
              have hjl2 : (jx : Int) < (st.length : Int) := by omega
              have hcj : wr.cell? ⟨Bw, jx, none⟩ = some (.int .i64 r) := (HW.out.1.2.2.1 jx hjl).trans (by rw [hE2])
              have HSTA := Aside0.mk (fun (W : World) (hW : Below w.heap.size w W) => spec_plState.calls a0_0 a0_1 A0_2 c0_2 l0_2 a1 z W (Kd.C_below HR.out.1 hW) HR.out.2 hz)
              have HIX := Aside0.mk (fun (W : World) (hW : Below w6.heap.size w6 W) => spec_plIndex.calls k As cs st z (jx : Int) W (HHR.out W hW).2 HCS.out hix)
              clear hz hix hr hixr hE2 hjl
              rw [show (((0 : Nat) : Int) - 1) = -1 from rfl]
              go_wp2_with (first | (go_at_call 69; refine (HSTA.out _ HB.out.1).mono ?_; rintro e w11 ⟨rfl, hb11⟩; have hcj11 := below_cell_ hb11 hcj; have HB11 := Aside0.mk hb11; clear hb11 hcj) | (go_at_call 68; refine (HIX.out _ (HB.out.2.trans (HB11.out.mono HB.out.2.size))).mono ?_; rintro e w12 ⟨rfl, ⟨nd2, hnd2⟩⟩; have hcj12 : w12.cell? ⟨Bw, jx, none⟩ = some (.int .i64 r) := (by rw [hnd2]; exact hcj11); have HND2 := Aside0.mk hnd2; clear hnd2))
              go_ret
              exact ⟨rfl, by rw [HND2.out]; exact pw_below_drewN (HB.out.1.trans (HB11.out.mono HB.out.1.size)) _⟩
            | succ d =>
              have hdp : d < a0_0.size := by have := HD.out.1; omega
              have hdi : (d : Int) < (a0_0.size : Int) := by omega
              have HDD := HD.out.2
              simp only [dpD] at HDD
              replace HDD := Option.bind_eq_some_iff.mp HDD
              obtain ⟨nxF, hrow, hdp2⟩ := HDD
              have HROW := Aside0.mk hrow
              have HDP2 := Aside0.mk hdp2
              clear hrow hdp2
              rw [show (((d + 1 : Nat) : Int) - 1) = (d : Int) by omega]
              obtain ⟨c, hc⟩ : ∃ c : Nat, a0_0[d].toNat = c := ⟨_, rfl⟩
              have HBT := Aside0.mk (show bt a0_0 (d : Int) = (c : Int) by unfold bt; rw [dif_pos (show (d : Int).toNat < a0_0.size by simpa using hdp)]; exact congrArg Int.ofNat hc)
              have hc80a : (mkW wr st.length).cell? ⟨B2, 0, none⟩ = some (.string a0_0) := (blk_cell (blk_below HX8.out (below_mk wr st.length)) 0).trans rfl
              by_cases c76 : (c : Int) = 76
              have HS0 := Aside0.mk (show sgnT a0_0 (d : Int) = (⟨#[65, 66, 67, 68, 69, 70, 71, 72, 73, 74, 75, 76, 77, 78, 79, 80, 81, 82, 83, 84, 85, 86, 87, 88, 89, 90]⟩ : ByteArray) by unfold sgnT; rw [HBT.out, if_pos c76])
              have c76b : ((c : Int) == 76) = true := beq_iff_eq.mpr c76
              clear c76
              go_wp2
              try rw [c76b]
              generalize hsg : (⟨#[65, 66, 67, 68, 69, 70, 71, 72, 73, 74, 75, 76, 77, 78, 79, 80, 81, 82, 83, 84, 85, 86, 87, 88, 89, 90]⟩ : ByteArray) = sg at HS0 ⊢
              have HSG := Aside0.mk (show ∀ q : Nat, q < sg.size → bt sg (q : Int) < 128 by rw [← hsg]; decide)
              have HSZ := Aside0.mk (show sg.size ≤ 26 by rw [← hsg]; decide)
              clear hsg
              rotate_left
              have HS0 := Aside0.mk (show sgnT a0_0 (d : Int) = (⟨#[48, 49, 50, 51, 52, 53, 54, 55, 56, 57]⟩ : ByteArray) by unfold sgnT; rw [HBT.out, if_neg c76])
              have c76b : ((c : Int) == 76) = false := beq_eq_false_iff_ne.mpr c76
              clear c76
              go_wp2
              try rw [c76b]
              generalize hsg : (⟨#[48, 49, 50, 51, 52, 53, 54, 55, 56, 57]⟩ : ByteArray) = sg at HS0 ⊢
              have HSG := Aside0.mk (show ∀ q : Nat, q < sg.size → bt sg (q : Int) < 128 by rw [← hsg]; decide)
              have HSZ := Aside0.mk (show sg.size ≤ 26 by rw [← hsg]; decide)
              clear hsg
              all_goals
                have HROW2 := Aside0.mk (show rowD k a0_0 a0_1 l0_2 st ways0 sg st.length 0 (List.replicate st.length 0) = some nxF by rw [← HS0.out]; exact HROW.out)
                have HBM := Aside0.mk (And.intro (HB.out.1.trans ((below_mk wr st.length).mono HB.out.1.size)) (HB.out.2.trans ((below_mk wr st.length).mono HB.out.2.size)))
                have HNB := Aside0.mk (show Bw ≠ wr.heap.size ∧ B2 ≠ wr.heap.size ∧ w6.heap.size ≤ wr.heap.size ∧ w.heap.size ≤ wr.heap.size from ⟨by have := HW.out.1.1; omega, by have := blk_lt HX8.out; omega, HB.out.2.size, HB.out.1.size⟩)
                have HWB := Aside0.mk (And.intro (rowI_mk wr st.length) (rowI_below HW.out.1 (below_mk wr st.length)))
                clear HROW HX8 hc80 hc81 hc82 hc80a HB HW c76b
                obtain ⟨Bn, hBn⟩ : ∃ Bn : Nat, Bn = wr.heap.size := ⟨_, rfl⟩
                rw [← hBn] at HNB HWB ⊢
                clear hBn
                go_loopg [59] st.length (fun d3 v59 w' => ∃ (i : Nat) (nx : List Int), v59 = .int .i64 (i : Int) ∧ Aside0 (i + d3 = st.length) ∧ Aside0 (rowD k a0_0 a0_1 l0_2 st ways0 sg d3 i nx = some nxF) ∧ Aside0 (RowI w' Bn st.length nx ∧ RowI w' Bw st.length ways0) ∧ Aside0 (Below w.heap.size w w' ∧ Below w6.heap.size w6 w'))
                case atStart => exact ⟨0, _, rfl, ⟨by omega⟩, HROW2, HWB, HBM⟩
                case round =>
                  clear HROW2 HWB HBM
                  obtain ⟨i, nx, rfl, HI, HROW, HW, HB⟩ := hrel
                  cases gk with
                  | zero =>
                    have hii : ¬ (i : Int) < (st.length : Int) := by have := HI.out; omega
                    have hE : nx = nxF := Option.some.inj HROW.out
                    go_wp2
                    go_roundg d
                    case measure => omega
                    case rel => exact ⟨Bn, nxF, rfl, rfl, ⟨by have := HD.out.1; omega, HDP2.out⟩, ⟨by rw [← hE]; exact HW.out.1, HNB.out.2.2.1⟩, HB⟩
                  | succ d3 =>
                    have hi : i < st.length := by have := HI.out; omega
                    have hii : (i : Int) < (st.length : Int) := by omega
                    have hi0 : 0 ≤ (i : Int) := by omega
                    obtain ⟨ad, e1, hx0⟩ := Kd.at_string (HHR.out wr HB.out.2).2 (i : Int) hi0 hii
                    cases e1
                    rw [Int.toNat_natCast] at hx0
                    have hrw := HROW.out
                    simp only [rowD] at hrw
                    obtain ⟨s, hs⟩ : ∃ s, rdOf ByteArray.empty st (i : Int) = s := ⟨_, rfl⟩
                    rw [hs] at hx0 hrw
                    clear hs
                    by_cases hss : s.size ≤ 1000
                    case neg => rw [if_neg hss] at hrw; cases hrw
                    rw [if_pos hss] at hrw
                    replace hrw := Option.bind_eq_some_iff.mp hrw
                    obtain ⟨nx3, hcel, hrw⟩ := hrw
                    have HCEL := Aside0.mk hcel
                    have HROW3 := Aside0.mk hrw
                    clear hcel hrw HROW
                    go_wp2
                    have hbi : Below wr.heap.size wr (wr.iter sg 0) := (Below.refl _ _).alloc (Nat.le_refl _) _
                    have HW4 := Aside0.mk (And.intro (rowI_below HW.out.1 hbi) (rowI_below HW.out.2 hbi))
                    have HB4_ := Aside0.mk (And.intro (HB.out.1.trans (hbi.mono HB.out.1.size)) (HB.out.2.trans (hbi.mono HB.out.2.size)))
                    have HIT := Aside0.mk (World.iter_heap wr sg 0)
                    have HNI := Aside0.mk (show Bn ≠ wr.heap.size ∧ Bw ≠ wr.heap.size ∧ B2 ≠ wr.heap.size ∧ w6.heap.size ≤ wr.heap.size ∧ w.heap.size ≤ wr.heap.size from ⟨by have := HW.out.1.1; omega, by have := HW.out.2.1; omega, by have := blk_lt (HHR.out wr HB.out.2).1; omega, HB.out.2.size, HB.out.1.size⟩)
                    clear hbi HW HB
                    obtain ⟨It, hIt⟩ : ∃ It : Nat, It = wr.heap.size := ⟨_, rfl⟩
                    rw [← hIt] at HNI HIT ⊢
                    clear hIt hx0
                    go_loopg [13] sg.size (fun d4 v13 w' => ∃ (q : Nat) (nx2 : List Int), Aside0 (q + d4 = sg.size) ∧ Aside0 (celD k a0_0 a0_1 l0_2 st ways0 sg s i d4 q nx2 = some nx3) ∧ Aside0 (w'.heap[It]? = some (.stringIter sg (q : Int).toNat)) ∧ Aside0 (RowI w' Bn st.length nx2 ∧ RowI w' Bw st.length ways0) ∧ Aside0 (Below w.heap.size w w' ∧ Below w6.heap.size w6 w'))
                    case atStart => exact ⟨0, nx, ⟨by omega⟩, HCEL, HIT, HW4, HB4_⟩
                    case round =>
                      clear HCEL HIT HW4 HB4_
                      obtain ⟨q, nx2, HQ, HCEL, HIT, HW, HB⟩ := hrel
                      cases gk with
                      | zero =>
                        have cq : ¬ (q : Int) < (sg.size : Int) := by have := HQ.out; omega
                        have hnx : ∀ ty, (Instr.next (.pointer (some ⟨It, 0, none⟩)) true ty).run Tryd.prog wr = _ := fun ty => run_next_stop_ wr It sg q ty HIT.out cq
                        have hE : nx2 = nx3 := Option.some.inj HCEL.out
                        go_wp2
                        go_roundg d3
                        case measure => omega
                        case rel => exact ⟨i + 1, nx3, rfl, ⟨by have := HI.out; omega⟩, HROW3, ⟨by rw [← hE]; exact HW.out.1, HW.out.2⟩, HB⟩
                      | succ d4 =>
                        have hq : q < sg.size := by have := HQ.out; omega
                        have cq : (q : Int) < (sg.size : Int) := by omega
                        have hsg : sg.size ≤ 26 := HSZ.out
                        obtain ⟨W2, hW2⟩ : ∃ W2, World.setIter_ wr It sg ((q : Int) + 1).toNat = W2 := ⟨_, rfl⟩
                        have hnx : ∀ ty, (Instr.next (.pointer (some ⟨It, 0, none⟩)) true ty).run Tryd.prog wr = .ok (.tuple #[.bool true, .int .i64 q, .int .i32 (bt sg q)]) W2 := fun ty => (run_next_at_ wr It sg q ty HIT.out (Int.natCast_nonneg q) cq (HSG.out q hq)).trans (by rw [hW2])
                        have HI2 := Aside0.mk (show W2.heap[It]? = some (.stringIter sg ((q : Int) + 1).toNat) by rw [← hW2]; exact iter_set_ (iter_lt_ HIT.out))
                        have HW2 := Aside0.mk (show RowI W2 Bn st.length nx2 ∧ RowI W2 Bw st.length ways0 by rw [← hW2]; exact ⟨rowI_block HW.out.1 (iter_other_ HNI.out.1), rowI_block HW.out.2 (iter_other_ HNI.out.2.1)⟩)
                        have HB2_ := Aside0.mk (show Below w.heap.size w W2 ∧ Below w6.heap.size w6 W2 by rw [← hW2]; exact ⟨below_iter_ HB.out.1 HNI.out.2.2.2.2, below_iter_ HB.out.2 HNI.out.2.2.2.1⟩)
                        clear hW2 HIT HW HB
                        have HX2 := Aside0.mk (HHR.out W2 HB2_.out.2).1
                        have hcw0 : W2.cell? ⟨B2, 0, none⟩ = some (.string a0_0) := (blk_cell HX2.out 0).trans rfl
                        have hcw1 : W2.cell? ⟨B2, 1, none⟩ = some (.string a0_1) := (blk_cell HX2.out 1).trans rfl
                        have hcw2 : W2.cell? ⟨B2, 2, none⟩ = some (.slice A0_2 l0_2.length c0_2) := (blk_cell HX2.out 2).trans rfl
                        obtain ⟨q1, hq1⟩ : ∃ q1 : Int, (q : Int) + 1 = q1 := ⟨_, rfl⟩
                        have hq10 : (q : Int) ≤ q1 := by omega
                        have hq1s : q1 ≤ (sg.size : Int) := by omega
                        have hq1z : 0 ≤ q1 := by omega
                        have HQ1 := Aside0.mk hq1
                        go_wp2
                        clear hq1
                        have hqt : q + 1 = q1.toNat := by have := HQ1.out; omega
                        have hcel := HCEL.out
                        simp only [celD] at hcel
                        rw [hqt] at hcel
                        replace hcel := Option.bind_eq_some_iff.mp hcel
                        obtain ⟨hh, hhas, hcel⟩ := hcel
                        have HHAS := Aside0.mk hhas
                        have HQT := Aside0.mk hqt
                        clear hqt hhas HCEL
                        have hqw : IntKind.i64.wrap ((q : Int) + 1) = q1 := (i64_w _).trans (by rw [HQ1.out]; unfold wrap64; omega)
                        cases hh with
                        | true =>
                          rw [if_pos rfl] at hcel
                          have HCEL2 := Aside0.mk hcel
                          clear hcel
                          go_quiet (first | (go_at_call 56; (with_reducible refine (spec_plHas.calls k a0_1 (sg.extract q q1.toNat) true _ HHAS.out).mono ?_); rintro e w' ⟨rfl, ⟨nd, rfl⟩⟩; (try first | exact ⟨rfl, _, World.drewN_drewN _ _ _⟩ | exact ⟨rfl, _, Eq.trans (World.drewN_drewN _ _ _) (congrArg (World.drewN _) (Nat.add_assoc _ _ _))⟩)))
                          try go_wp2
                          go_roundg d4
                          case measure => omega
                          case rel => exact ⟨q + 1, nx2, ⟨by have := HQ.out; omega⟩, ⟨by rw [HQT.out] at *; exact HCEL2.out⟩, ⟨HI2.out⟩, ⟨rowI_block HW2.out.1 rfl, rowI_block HW2.out.2 rfl⟩, ⟨pw_below_drewN HB2_.out.1 _, pw_below_drewN HB2_.out.2 _⟩⟩
                        | false =>
                          rw [if_neg (by decide)] at hcel
                          replace hcel := Option.bind_eq_some_iff.mp hcel
                          obtain ⟨cc, hcl, hcel⟩ := hcel
                          have HCLE := Aside0.mk (fun (W : World) (hW : Below w.heap.size w W) => spec_plClean.calls k a0_0 a0_1 A0_2 c0_2 l0_2 (s ++ sg.extract q q1.toNat) cc W (Kd.C_below HR.out.1 hW) HR.out.2 hcl)
                          clear hcl
                          cases cc with
                          | false =>
                            rw [if_neg (by decide)] at hcel
                            have HCEL2 := Aside0.mk hcel
                            clear hcel
                            go_region_held3 (fun w' => w'.cell? ⟨B2, 0, none⟩ = some (.string a0_0) ∧ w'.cell? ⟨B2, 1, none⟩ = some (.string a0_1) ∧ w'.cell? ⟨B2, 2, none⟩ = some (.slice A0_2 l0_2.length c0_2))
                              (first | exact ⟨hcw0, hcw1, hcw2⟩ | exact hS3 | exact hS4)
                              (first | (go_at_call 56; refine (spec_plHas.calls k a0_1 (sg.extract q q1.toNat) false _ HHAS.out).mono ?_; rintro e w9 ⟨rfl, ⟨nd, hnd⟩⟩; have hS3 : w9.cell? ⟨B2, 0, none⟩ = some (.string a0_0) ∧ w9.cell? ⟨B2, 1, none⟩ = some (.string a0_1) ∧ w9.cell? ⟨B2, 2, none⟩ = some (.slice A0_2 l0_2.length c0_2) := (by rw [hnd]; exact ⟨hcw0, hcw1, hcw2⟩); have HND := Aside0.mk hnd; clear hnd) | (go_at_call 60; refine (HCLE.out _ (by rw [HND.out]; exact pw_below_drewN (show Below w.heap.size w W2.drew from HB2_.out.1.drew) _)).mono ?_; rintro e w10 ⟨rfl, hb10⟩; have hS4 : w10.cell? ⟨B2, 0, none⟩ = some (.string a0_0) ∧ w10.cell? ⟨B2, 1, none⟩ = some (.string a0_1) ∧ w10.cell? ⟨B2, 2, none⟩ = some (.slice A0_2 l0_2.length c0_2) := ⟨below_cell_ hb10 hS3.1, below_cell_ hb10 hS3.2.1, below_cell_ hb10 hS3.2.2⟩; have HB10 := Aside0.mk hb10; clear hb10))
                            go_wp2
                            have HBW := Aside0.mk (show Below W2.heap.size W2 w10 from (show Below W2.heap.size W2 w9 by rw [HND.out]; exact pw_below_drewN (show Below W2.heap.size W2 W2.drew from (Below.refl _ _).drew) _).trans (HB10.out.mono (by rw [HND.out]; exact Nat.le_refl _)))
                            go_roundg d4
                            case measure => omega
                            case rel => exact ⟨q + 1, nx2, ⟨by have := HQ.out; omega⟩, ⟨by rw [HQT.out] at *; exact HCEL2.out⟩, ⟨iter_below_ HI2.out HBW.out⟩, ⟨rowI_below HW2.out.1 HBW.out, rowI_below HW2.out.2 HBW.out⟩, ⟨HB2_.out.1.trans (HBW.out.mono HB2_.out.1.size), HB2_.out.2.trans (HBW.out.mono HB2_.out.2.size)⟩⟩
                          | true =>
                            rw [if_pos rfl] at hcel
                            replace hcel := Option.bind_eq_some_iff.mp hcel
                            obtain ⟨zz, hst, hcel⟩ := hcel
                            replace hcel := Option.bind_eq_some_iff.mp hcel
                            obtain ⟨ix, hix, hcel⟩ := hcel
                            by_cases hixr : 0 ≤ ix ∧ ix < (ways0.length : Int)
                            case neg => rw [if_neg hixr] at hcel; cases hcel
                            rw [if_pos hixr] at hcel
                            have HCEL2 := Aside0.mk hcel
                            have HIXR := Aside0.mk hixr
                            have HSTA := Aside0.mk (fun (W : World) (hW : Below w.heap.size w W) => spec_plState.calls a0_0 a0_1 A0_2 c0_2 l0_2 (s ++ sg.extract q q1.toNat) zz W (Kd.C_below HR.out.1 hW) HR.out.2 hst)
                            have HIX := Aside0.mk (fun (W : World) (hW : Below w6.heap.size w6 W) => spec_plIndex.calls k (some ad) cs st zz ix W (HHR.out W hW).2 HCS.out hix)
                            clear hcel hixr hst hix
                            go_region_held3 (fun w' => w'.cell? ⟨B2, 0, none⟩ = some (.string a0_0) ∧ w'.cell? ⟨B2, 1, none⟩ = some (.string a0_1) ∧ w'.cell? ⟨B2, 2, none⟩ = some (.slice A0_2 l0_2.length c0_2))
                              (first | exact ⟨hcw0, hcw1, hcw2⟩ | exact hS3 | exact hS4)
                              (first | (go_at_call 56; refine (spec_plHas.calls k a0_1 (sg.extract q q1.toNat) false _ HHAS.out).mono ?_; rintro e w9 ⟨rfl, ⟨nd, hnd⟩⟩; have hS3 : w9.cell? ⟨B2, 0, none⟩ = some (.string a0_0) ∧ w9.cell? ⟨B2, 1, none⟩ = some (.string a0_1) ∧ w9.cell? ⟨B2, 2, none⟩ = some (.slice A0_2 l0_2.length c0_2) := (by rw [hnd]; exact ⟨hcw0, hcw1, hcw2⟩); have HND := Aside0.mk hnd; clear hnd) | (go_at_call 60; refine (HCLE.out _ (by rw [HND.out]; exact pw_below_drewN (show Below w.heap.size w W2.drew from HB2_.out.1.drew) _)).mono ?_; rintro e w10 ⟨rfl, hb10⟩; have hS4 : w10.cell? ⟨B2, 0, none⟩ = some (.string a0_0) ∧ w10.cell? ⟨B2, 1, none⟩ = some (.string a0_1) ∧ w10.cell? ⟨B2, 2, none⟩ = some (.slice A0_2 l0_2.length c0_2) := ⟨below_cell_ hb10 hS3.1, below_cell_ hb10 hS3.2.1, below_cell_ hb10 hS3.2.2⟩; have HB10 := Aside0.mk hb10; clear hb10))
                            go_wp2
                            have HBW := Aside0.mk (show Below W2.heap.size W2 w10 from (show Below W2.heap.size W2 w9 by rw [HND.out]; exact pw_below_drewN (show Below W2.heap.size W2 W2.drew from (Below.refl _ _).drew) _).trans (HB10.out.mono (by rw [HND.out]; exact Nat.le_refl _)))
                            have hi' : i < st.length := by have := HI.out; omega
                            obtain ⟨jx, hjx⟩ : ∃ jx : Nat, ix = (jx : Int) := ⟨ix.toNat, by have := HIXR.out.1; omega⟩
                            subst hjx
                            have hjl : jx < st.length := by have h1 := HIXR.out.2; have h2 := HW2.out.2.2.1; omega
                            have hjl2 : (jx : Int) < (st.length : Int) := by omega
                            have hil2 : (i : Int) < (st.length : Int) := by omega
                            have k1 : w10.cell? ⟨Bn, i, none⟩ = some (.int .i64 (rd nx2 (i : Int))) := below_cell_ HBW.out (HW2.out.1.2.2.1 i hi')
                            have k2 : w10.cell? ⟨Bw, jx, none⟩ = some (.int .i64 (rd ways0 (jx : Int))) := below_cell_ HBW.out (HW2.out.2.2.2.1 jx hjl)
                            have k3 : w10.cell? ⟨B2, 0, none⟩ = some (.string a0_0) := below_cell_ HBW.out hcw0
                            have k4 : w10.cell? ⟨B2, 1, none⟩ = some (.string a0_1) := below_cell_ HBW.out hcw1
                            have k5 : w10.cell? ⟨B2, 2, none⟩ = some (.slice A0_2 l0_2.length c0_2) := below_cell_ HBW.out hcw2
                            have k6 : w10.frozen? ⟨Bn, i, none⟩ = false := (HBW.out.frozen HW2.out.1.1).trans (HW2.out.1.2.2.2 i hi')
                            clear hcw0 hcw1 hcw2 hi' hjl
                            refine start_ (n := 15) (S := fun w' => w'.cell? ⟨Bn, i, none⟩ = some (.int .i64 (rd nx2 (i : Int))) ∧ w'.cell? ⟨Bw, jx, none⟩ = some (.int .i64 (rd ways0 (jx : Int))) ∧ w'.cell? ⟨B2, 0, none⟩ = some (.string a0_0) ∧ w'.cell? ⟨B2, 1, none⟩ = some (.string a0_1) ∧ w'.cell? ⟨B2, 2, none⟩ = some (.slice A0_2 l0_2.length c0_2)) (ds := [14]) #[false, false, false, false, false, false, false, false, false, false, false, false, false, false, false] (by kernel_rfl) rfl rfl ⟨k1, k2, k3, k4, k5⟩ (fun hHeld => ?_)
                            refine pure_ (i := 0) (N := some 90) (v := ?_) (a' := ?_) #[true, false, false, false, false, false, false, false, false, false, false, false, false, false, false] rfl rfl (by kernel_rfl) (fun _ _ _ h => h) (Or.inl ⟨by rfl, ?_⟩) ?_ ?_
                            rotate_left
                            · intro w'
                              go_simp
                              with_reducible rfl
                            rotate_left
                            · simp only [Act.put, List.setIfInBounds_toArray, List.set_cons_zero, List.set_cons_succ, i64_w, i32_w]
                              rfl
                            refine pure_ (i := 1) (N := some 91) (v := ?_) (a' := ?_) #[true, true, false, false, false, false, false, false, false, false, false, false, false, false, false] rfl rfl (by kernel_rfl) (fun _ _ _ h => h) (Or.inl ⟨by rfl, ?_⟩) ?_ ?_
                            rotate_left
                            · intro w'
                              go_simp
                              with_reducible rfl
                            rotate_left
                            · simp only [Act.put, List.setIfInBounds_toArray, List.set_cons_zero, List.set_cons_succ, i64_w, i32_w]
                              rfl
                            refine pure_ (i := 2) (N := some 92) (v := ?_) (a' := ?_) #[true, true, true, false, false, false, false, false, false, false, false, false, false, false, false] rfl rfl (by kernel_rfl) (fun _ _ _ h => h) (Or.inl ⟨by rfl, ?_⟩) ?_ ?_
                            rotate_left
                            · intro w'
                              go_simp
                              with_reducible rfl
                            rotate_left
                            · simp only [Act.put, List.setIfInBounds_toArray, List.set_cons_zero, List.set_cons_succ, i64_w, i32_w]
                              rfl
                            refine pure_ (i := 4) (N := some 94) (v := ?_) (a' := ?_) #[true, true, true, false, true, false, false, false, false, false, false, false, false, false, false] rfl rfl (by kernel_rfl) (fun _ _ _ h => h) (Or.inl ⟨by rfl, ?_⟩) ?_ ?_
                            rotate_left
                            · intro w'
                              go_simp
                              with_reducible rfl
                            rotate_left
                            · simp only [Act.put, List.setIfInBounds_toArray, List.set_cons_zero, List.set_cons_succ, i64_w, i32_w]
                              rfl
                            refine pure_ (i := 5) (N := some 95) (v := ?_) (a' := ?_) #[true, true, true, false, true, true, false, false, false, false, false, false, false, false, false] rfl rfl (by kernel_rfl) (fun _ _ _ h => h) (Or.inl ⟨by rfl, ?_⟩) ?_ ?_
                            rotate_left
                            · intro w'
                              go_simp
                              with_reducible rfl
                            rotate_left
                            · simp only [Act.put, List.setIfInBounds_toArray, List.set_cons_zero, List.set_cons_succ, i64_w, i32_w]
                              rfl
                            refine pure_ (i := 7) (N := some 97) (v := ?_) (a' := ?_) #[true, true, true, false, true, true, false, true, false, false, false, false, false, false, false] rfl rfl (by kernel_rfl) (fun _ _ _ h => h) (Or.inl ⟨by rfl, ?_⟩) ?_ ?_
                            rotate_left
                            · intro w'
                              go_simp
                              with_reducible rfl
                            rotate_left
                            · simp only [Act.put, List.setIfInBounds_toArray, List.set_cons_zero, List.set_cons_succ, i64_w, i32_w]
                              rfl
                            refine take_ (i := 3) (N := some 93) (v := ?_) (a' := ?_) #[true, true, true, true, true, true, false, true, false, false, false, false, false, false, false] rfl rfl (by kernel_rfl) (fun _ _ _ h => h) (Or.inl ⟨by rfl, ?_⟩) hHeld ?_ ?_
                            rotate_left
                            · rintro w' ⟨s0, s1, s2, s3, s4⟩
                              go_simp
                              with_reducible rfl
                            rotate_left
                            · simp only [Act.put, List.setIfInBounds_toArray, List.set_cons_zero, List.set_cons_succ, i64_w, i32_w]
                              rfl
                            refine take_ (i := 6) (N := some 96) (v := ?_) (a' := ?_) #[true, true, true, true, true, true, true, true, false, false, false, false, false, false, false] rfl rfl (by kernel_rfl) (fun _ _ _ h => h) (Or.inl ⟨by rfl, ?_⟩) hHeld ?_ ?_
                            rotate_left
                            · rintro w' ⟨s0, s1, s2, s3, s4⟩
                              go_simp
                              with_reducible rfl
                            rotate_left
                            · simp only [Act.put, List.setIfInBounds_toArray, List.set_cons_zero, List.set_cons_succ, i64_w, i32_w]
                              rfl
                            refine one_ (i := 8) (N := some 98) #[true, true, true, true, true, true, true, true, true, false, false, false, false, false, false] rfl rfl (by kernel_rfl) (by decide) (fun K hK => ?_)
                            refine goes_ Tryd.func69 (by kernel_rfl) rfl #[.agg #[.string a0_0, .string a0_1, .slice A0_2 l0_2.length c0_2], .string (s ++ sg.extract q q1.toNat)] (by rfl) rfl rfl (by simp only [List.map_toArray, List.map_cons, List.map_nil]; rfl) ?_
                            with_reducible refine (HSTA.out _ (show Below w.heap.size w w10.drew from (HB2_.out.1.trans (HBW.out.mono HB2_.out.1.size)).drew)).mono ?_
                            rintro e w11 ⟨rfl, hb11⟩
                            refine ⟨_, rfl, ?_⟩
                            have hS5 := And.intro (below_cell_ hb11 k1) (And.intro (below_cell_ hb11 k2) (And.intro (below_cell_ hb11 k3) (And.intro (below_cell_ hb11 k4) (below_cell_ hb11 k5))))
                            have k11f : w11.frozen? ⟨Bn, i, none⟩ = false := (hb11.frozen (World.block_lt_of_cell? w10 _ k1)).trans k6
                            have HB11 := Aside0.mk (show Below w10.heap.size w10 w11 from (show Below w10.heap.size w10 w10.drew from (Below.refl _ _).drew).trans (hb11.mono (Nat.le_refl _)))
                            clear hb11
                            refine hK.out _ _ ⟨hS5.1, hS5.2.1, hS5.2.2.1, hS5.2.2.2.1, hS5.2.2.2.2⟩ (fun hHeld => ?_)
                            clear hK K
                            refine norm_ (a' := ?_) ?_ ?_
                            rotate_left
                            · show Act.put _ (some 98) _ = _
                              simp only [Act.put, List.setIfInBounds_toArray, List.set_cons_zero, List.set_cons_succ, i64_w, i32_w]
                              rfl
                            refine one_ (i := 9) (N := some 99) #[true, true, true, true, true, true, true, true, true, true, false, false, false, false, false] rfl rfl (by kernel_rfl) (by decide) (fun K hK => ?_)
                            refine goes_ Tryd.func68 (by kernel_rfl) rfl #[.slice (some ad) st.length cs, .string zz] (by rfl) rfl rfl (by simp only [List.map_toArray, List.map_cons, List.map_nil]; rfl) ?_
                            with_reducible refine (HIX.out _ ((HB2_.out.2.trans (HBW.out.mono HB2_.out.2.size)).trans (HB11.out.mono (Nat.le_trans HB2_.out.2.size HBW.out.size)))).mono ?_
                            rintro e w12 ⟨rfl, ⟨nd2, hnd2⟩⟩
                            refine ⟨_, rfl, ?_⟩
                            have hS6 : w12.cell? ⟨Bn, i, none⟩ = some (.int .i64 (rd nx2 (i : Int))) ∧ w12.cell? ⟨Bw, jx, none⟩ = some (.int .i64 (rd ways0 (jx : Int))) ∧ w12.cell? ⟨B2, 0, none⟩ = some (.string a0_0) ∧ w12.cell? ⟨B2, 1, none⟩ = some (.string a0_1) ∧ w12.cell? ⟨B2, 2, none⟩ = some (.slice A0_2 l0_2.length c0_2) := (by rw [hnd2]; exact hS5)
                            have k12 := hS6.1
                            have k12f : w12.frozen? ⟨Bn, i, none⟩ = false := (by rw [hnd2]; exact k11f)
                            have HND2 := Aside0.mk hnd2
                            clear hnd2
                            refine hK.out _ _ ⟨hS6.1, hS6.2.1, hS6.2.2.1, hS6.2.2.2.1, hS6.2.2.2.2⟩ (fun hHeld => ?_)
                            clear hK K
                            refine norm_ (a' := ?_) ?_ ?_
                            rotate_left
                            · show Act.put _ (some 99) _ = _
                              simp only [Act.put, List.setIfInBounds_toArray, List.set_cons_zero, List.set_cons_succ, i64_w, i32_w]
                              rfl
                            refine pure_ (i := 10) (N := some 100) (v := ?_) (a' := ?_) #[true, true, true, true, true, true, true, true, true, true, true, false, false, false, false] rfl rfl (by kernel_rfl) (fun _ _ _ h => h) (Or.inl ⟨by rfl, ?_⟩) ?_ ?_
                            rotate_left
                            · intro w'
                              go_simp
                              with_reducible rfl
                            rotate_left
                            · simp only [Act.put, List.setIfInBounds_toArray, List.set_cons_zero, List.set_cons_succ, i64_w, i32_w]
                              rfl
                            refine take_ (i := 11) (N := some 101) (v := ?_) (a' := ?_) #[true, true, true, true, true, true, true, true, true, true, true, true, false, false, false] rfl rfl (by kernel_rfl) (fun _ _ _ h => h) (Or.inl ⟨by rfl, ?_⟩) hHeld ?_ ?_
                            rotate_left
                            · rintro w' ⟨s0, s1, s2, s3, s4⟩
                              go_simp
                              with_reducible rfl
                            rotate_left
                            · simp only [Act.put, List.setIfInBounds_toArray, List.set_cons_zero, List.set_cons_succ, i64_w, i32_w]
                              rfl
                            refine pure_ (i := 12) (N := some 102) (v := ?_) (a' := ?_) #[true, true, true, true, true, true, true, true, true, true, true, true, true, false, false] rfl rfl (by kernel_rfl) (fun _ _ _ h => h) (Or.inl ⟨by rfl, ?_⟩) ?_ ?_
                            rotate_left
                            · intro w'
                              go_simp
                              with_reducible rfl
                            rotate_left
                            · simp only [Act.put, List.setIfInBounds_toArray, List.set_cons_zero, List.set_cons_succ, i64_w, i32_w]
                              rfl
                            refine pure_ (i := 13) (N := some 103) (v := ?_) (a' := ?_) #[true, true, true, true, true, true, true, true, true, true, true, true, true, true, false] rfl rfl (by kernel_rfl) (fun _ _ _ h => h) (Or.inl ⟨by rfl, ?_⟩) ?_ ?_
                            rotate_left
                            · intro w'
                              go_simp
                              with_reducible rfl
                            rotate_left
                            · simp only [Act.put, List.setIfInBounds_toArray, List.set_cons_zero, List.set_cons_succ, i64_w, i32_w]
                              rfl
                            refine last_ (i := 14) (N := none) #[true, true, true, true, true, true, true, true, true, true, true, true, true, true, true] rfl rfl (by kernel_rfl) (by decide) (fun K hK => ?_)
                            refine skip_ (w1 := ?_) (by rfl) rfl ?_ ?_
                            rotate_left
                            · go_simp
                              rfl
                            refine hK.out _ _ ?_
                            clear hK K
                            refine done_ (by kernel_rfl) ?_
                            have HB12 := Aside0.mk (show Below W2.heap.size W2 w12 by rw [HND2.out]; exact pw_below_drewN (HBW.out.trans (HB11.out.mono HBW.out.size)) _)
                            have HNI' := Aside0.mk (And.intro HNI.out.1 HNB.out)
                            go_wp2
                            go_roundg d4
                            case measure => omega
                            case rel => exact ⟨q + 1, nx2.set i (wrap64 (rd nx2 (i : Int) + rd ways0 (jx : Int))), ⟨by have := HQ.out; omega⟩, ⟨by rw [HQT.out]; exact HCEL2.out⟩, ⟨(Below.heap_setCell _ _ _ _ (fun h => HNI'.out.1 h.symm)).trans (iter_below_ HI2.out HB12.out)⟩, ⟨rowI_set (rowI_below HW2.out.1 HB12.out) i (by have := HI.out; omega) _, rowI_block (rowI_below HW2.out.2 HB12.out) (Below.heap_setCell _ _ _ _ HNI'.out.2.1)⟩, ⟨(HB2_.out.1.trans (HB12.out.mono HB2_.out.1.size)).setCell HNI'.out.2.2.2.2 _, (HB2_.out.2.trans (HB12.out.mono HB2_.out.2.size)).setCell HNI'.out.2.2.2.1 _⟩⟩
theorem celD_mono (k : Nat) (p b : ByteArray) (ws st : List ByteArray) (ways : List Int) (sg s : ByteArray) (i : Nat) : ∀ (d q : Nat) (nx : List Int), LeO (celD k p b ws st ways sg s i d q nx) (celD (k + 1) p b ws st ways sg s i d q nx)
  | 0, _, _ => LeO.refl _
  | d + 1, q, nx => LeO.bind (spec_plHas.mono _ _ _) (fun h => LeO.ite (celD_mono k p b ws st ways sg s i d (q + 1) nx) (LeO.bind (spec_plClean.mono _ _ _ _ _) (fun c => LeO.ite (LeO.bind (LeO.refl _) (fun z => LeO.bind (spec_plIndex.mono _ _ _) (fun ix => LeO.ite (celD_mono k p b ws st ways sg s i d (q + 1) _) (LeO.refl _)))) (celD_mono k p b ws st ways sg s i d (q + 1) nx))))
theorem rowD_mono (k : Nat) (p b : ByteArray) (ws st : List ByteArray) (ways : List Int) (sg : ByteArray) : ∀ (d i : Nat) (nx : List Int), LeO (rowD k p b ws st ways sg d i nx) (rowD (k + 1) p b ws st ways sg d i nx)
  | 0, _, _ => LeO.refl _
  | d + 1, i, nx => LeO.ite (LeO.bind (celD_mono k p b ws st ways sg _ i _ _ _) (fun nx' => rowD_mono k p b ws st ways sg d (i + 1) nx')) (LeO.refl _)
theorem dpD_mono (k : Nat) (p b : ByteArray) (ws st : List ByteArray) : ∀ (d : Nat) (ways : List Int), LeO (dpD k p b ws st d ways) (dpD (k + 1) p b ws st d ways)
  | 0, _ => LeO.refl _
  | d + 1, ways => LeO.bind (rowD_mono k p b ws st ways _ _ _ _) (fun nx => dpD_mono k p b ws st d nx)
theorem spec_plFrom.mono : ∀ a0_0 a0_1 l0_2 a1 k, LeO (spec_plFrom.f k a0_0 a0_1 l0_2 a1) (spec_plFrom.f (k + 1) a0_0 a0_1 l0_2 a1) := by
  intro p b ws a1 k
  unfold spec_plFrom.f
  exact LeO.ite (LeO.bind (spec_plFits.mono _ _ _ _ _) (fun t1 => LeO.ite (LeO.bind (spec_plClean.mono _ _ _ _ _) (fun t2 => LeO.ite (LeO.bind (spec_plStates.mono _ _ _ _) (fun st => LeO.ite (LeO.bind (dpD_mono k p b ws st _ _) (fun ways => LeO.bind (LeO.refl _) (fun z => LeO.bind (spec_plIndex.mono _ _ _) (fun ix => LeO.refl _)))) (LeO.refl _))) (LeO.refl _))) (LeO.refl _))) (LeO.refl _)

/-! ### spec_CountPlates: function 19 -/
def spec_CountPlates.f (k : Nat) (a0_0 : ByteArray) (a0_1 : ByteArray) (l0_2 : List ByteArray) : Option (Int × Bool) := (spec_plGood.f k a0_0 a0_1 l0_2).bind fun t164 => (if t164 = true then ((spec_plFrom.f k a0_0 a0_1 l0_2 (⟨#[]⟩ : ByteArray)).bind fun t165 => (some (t165, true))) else (some (0, false)))
theorem spec_CountPlates.mono : ∀ a0 a1 a2 k, LeO (spec_CountPlates.f k a0 a1 a2) (spec_CountPlates.f (k + 1) a0 a1 a2) := by
  intro a0 a1 a2 k
  unfold spec_CountPlates.f
  repeat' first
      | (with_reducible exact spec_plFrom.mono _ _ _ _ _)
      | (with_reducible exact spec_plGood.mono _ _ _ _)
      | (with_reducible exact LeO.refl _)
      | (with_reducible exact LeO.none _)
      | (with_reducible refine LeO.ite ?_ ?_)
      | (with_reducible refine LeO.bind ?_ (fun _ => ?_))
      | exact spec_plFrom.mono _ _ _ _ _
      | exact spec_plGood.mono _ _ _ _
      | exact LeO.none _
      | refine LeO.ite ?_ ?_
      | refine LeO.bind ?_ (fun _ => ?_)
set_option maxHeartbeats 8000000 in
set_option maxRecDepth 100000 in
theorem spec_CountPlates.calls (k : Nat) (a0_0 : ByteArray) (a0_1 : ByteArray) (A0_2 : Option Addr) (c0_2 : Nat) (l0_2 : List ByteArray) (r1 : Int) (r2 : Bool) (w : World) (hr0_2 : Kd.C Kd.string w A0_2 l0_2.length l0_2) (hc0_2 : l0_2.length ≤ c0_2) (h : spec_CountPlates.f k a0_0 a0_1 l0_2 = some (r1, r2)) :
    Calls Tryd.prog 19 #[.agg #[.string a0_0, .string a0_1, .slice A0_2 l0_2.length c0_2]] w fun e w' => e = .returned (.tuple #[.int .i64 r1, .bool r2]) ∧ Below w.heap.size w w' := by
  have hu28 := Tryd.underlying28
  have HR0_2 := Aside0.mk hr0_2
  have HC0_2 := Aside0.mk hc0_2
  clear hr0_2 hc0_2
  have HB := Aside0.mk (Below.refl w.heap.size w)
  have H : ((spec_plGood.f k a0_0 a0_1 l0_2).bind fun t164 => (if t164 = true then ((spec_plFrom.f k a0_0 a0_1 l0_2 (⟨#[]⟩ : ByteArray)).bind fun t165 => (some (t165, true))) else (some (0, false)))) = some (r1, r2) := h
  clear h
  replace H := Option.bind_eq_some_iff.mp H
  obtain ⟨t164, A20, H⟩ := H
  replace H : (if t164 = true then ((spec_plFrom.f k a0_0 a0_1 l0_2 (⟨#[]⟩ : ByteArray)).bind fun t165 => (some (t165, true))) else (some (0, false))) = some (r1, r2) := H
  have A2 := Aside0.mk A20
  clear A20
  by_cases c3 : t164 = true
  · subst c3
    have H1 : ((spec_plFrom.f k a0_0 a0_1 l0_2 (⟨#[]⟩ : ByteArray)).bind fun t165 => (some (t165, true))) = some (r1, r2) := by rw [if_pos rfl] at H; exact H
    clear H
    have H := H1
    clear H1
    replace H := Option.bind_eq_some_iff.mp H
    obtain ⟨t165, A40, H⟩ := H
    replace H : (some (t165, true)) = some (r1, r2) := H
    have A4 := Aside0.mk A40
    clear A40
    simp only [Option.some.injEq, Prod.mk.injEq] at H
    obtain ⟨rfl, rfl⟩ := H
    go_enter Tryd.func19, Tryd.ntmps19
    go_wp2_with (first | ((with_reducible refine gate_dst (N := 1) rfl ?_); refine box_event ?hg (N := 1) ?hd (cs := #[.string a0_0, .string a0_1, .slice A0_2 l0_2.length c0_2]) (t := 28) ?hr ?_; (case hd => rfl); (case hg => rfl); (case hr => first | (go_simp; done) | (go_simp; rfl)); intro gb163 hg w5 hbox hb; have n0_ := Aside0.mk (below_step (by repeat (first | (with_reducible first | exact HB.out | apply below_alloc | apply pw_below_drewN | apply below_drew1) | exact HB.out)) hb); have n1_ := Aside0.mk (hbox); have n2_ := Aside0.mk ((by rw [hg]; exact (below_size (by repeat (first | (with_reducible first | exact HB.out | apply below_alloc | apply pw_below_drewN | apply below_drew1) | exact HB.out))) : w.heap.size ≤ gb163)); have n3_ := Aside0.mk ((by rw [hg]; exact (below_size (by repeat (first | (with_reducible first | exact HB.out | apply below_alloc | apply pw_below_drewN | apply below_drew1) | exact HB.out))) : w.heap.size ≤ gb163)); clear HB; have HB := n0_; have BK163 := n1_; have GW163 := n2_; have GE163 := n3_; clear n0_ n1_ n2_ n3_; clear hb hbox hg; have hcz6_0 : w5.cell? ⟨gb163, 0, none⟩ = some (.string a0_0) := (blk_cell BK163.out 0).trans rfl; have hcz6_1 : w5.cell? ⟨gb163, 1, none⟩ = some (.string a0_1) := (blk_cell BK163.out 1).trans rfl; have hcz6_2 : w5.cell? ⟨gb163, 2, none⟩ = some (.slice A0_2 l0_2.length c0_2) := (blk_cell BK163.out 2).trans rfl; have hfz6_0 := blk_frozen BK163.out 0; have hfz6_1 := blk_frozen BK163.out 1; have hfz6_2 := blk_frozen BK163.out 2) | ((with_reducible refine gate_callee (f := 33) rfl ?_); refine goesL_ (some 5) rfl rfl Tryd.func33 (by kernel_rfl) rfl #[.agg #[.string a0_0, .string a0_1, .slice A0_2 l0_2.length c0_2]] rfl (by (try simp only [List.map_toArray, List.map_cons, List.map_nil]); first | done | rfl | (simp only [List.length_drop, List.length_take]; rfl)) ?_; (with_reducible refine (spec_plGood.calls k a0_0 a0_1 _ _ l0_2 true _ ?side1 ?side2 A2.out).mono ?_); (case side1 => repeat (first | exact (Kd.C_below HR0_2.out HB.out) | (with_reducible refine Kd.C_alloc ?_ _) | (with_reducible refine Kd.C_drewN ?_ _) | (with_reducible refine Kd.C_drew ?_))); (case side2 => exact HC0_2.out); rintro e w7 ⟨rfl, hb⟩; refine ⟨_, rfl, ?_⟩; have n0_ := Aside0.mk (blk_below (g := gb163) (o := .cells #[.string a0_0, .string a0_1, .slice A0_2 l0_2.length c0_2] 28 (0, 0)) (by (with_reducible repeat (first | refine blk_drewN ?_ _ | refine blk_drew ?_ | refine blk_alloc ?_ _)); exact BK163.out) hb); have n1_ := Aside0.mk (below_step (by repeat (first | (with_reducible first | exact HB.out | apply below_alloc | apply pw_below_drewN | apply below_drew1 | refine below_set ?_ GE163.out) | exact HB.out)) hb); clear BK163; clear HB; have BK163 := n0_; have HB := n1_; clear n0_ n1_; (try clear hb); (try clear hb2); (try clear hk); (try clear hi); have hcz8_0 : w7.cell? ⟨gb163, 0, none⟩ = some (.string a0_0) := (blk_cell BK163.out 0).trans rfl; have hcz8_1 : w7.cell? ⟨gb163, 1, none⟩ = some (.string a0_1) := (blk_cell BK163.out 1).trans rfl; have hcz8_2 : w7.cell? ⟨gb163, 2, none⟩ = some (.slice A0_2 l0_2.length c0_2) := (blk_cell BK163.out 2).trans rfl; have hfz8_0 := blk_frozen BK163.out 0; have hfz8_1 := blk_frozen BK163.out 1; have hfz8_2 := blk_frozen BK163.out 2) | ((with_reducible refine gate_callee (f := 45) rfl ?_); refine goesL_ (some 8) rfl rfl Tryd.func45 (by kernel_rfl) rfl #[.agg #[.string a0_0, .string a0_1, .slice A0_2 l0_2.length c0_2], .string (⟨#[]⟩ : ByteArray)] rfl (by (try simp only [List.map_toArray, List.map_cons, List.map_nil]); first | done | rfl | (simp only [List.length_drop, List.length_take]; rfl)) ?_; (with_reducible refine (spec_plFrom.calls k a0_0 a0_1 _ _ l0_2 (⟨#[]⟩ : ByteArray) t165 _ ?side1 ?side2 A4.out).mono ?_); (case side1 => repeat (first | exact (Kd.C_below HR0_2.out HB.out) | (with_reducible refine Kd.C_alloc ?_ _) | (with_reducible refine Kd.C_drewN ?_ _) | (with_reducible refine Kd.C_drew ?_))); (case side2 => exact HC0_2.out); rintro e w9 ⟨rfl, hb⟩; refine ⟨_, rfl, ?_⟩; have n0_ := Aside0.mk (blk_below (g := gb163) (o := .cells #[.string a0_0, .string a0_1, .slice A0_2 l0_2.length c0_2] 28 (0, 0)) (by (with_reducible repeat (first | refine blk_drewN ?_ _ | refine blk_drew ?_ | refine blk_alloc ?_ _)); exact BK163.out) hb); have n1_ := Aside0.mk (below_step (by repeat (first | (with_reducible first | exact HB.out | apply below_alloc | apply pw_below_drewN | apply below_drew1 | refine below_set ?_ GE163.out) | exact HB.out)) hb); clear BK163; clear HB; have BK163 := n0_; have HB := n1_; clear n0_ n1_; (try clear hb); (try clear hb2); (try clear hk); (try clear hi)))
    go_ret2
    exact ⟨by first | rfl | (simp [errW_none, errW_some] <;> rfl) | (simp [*, errW_none, errW_some] <;> rfl), by repeat (first | (with_reducible first | exact HB.out | apply below_alloc | apply pw_below_drewN | apply below_drew1 | refine below_set ?_ GE163.out) | exact HB.out)⟩
  · replace c3 := Bool.eq_false_iff.mpr c3
    subst c3
    have H1 : (some (0, false)) = some (r1, r2) := by rw [if_neg (show ¬ (false = true) by decide)] at H; exact H
    clear H
    have H := H1
    clear H1
    simp only [Option.some.injEq, Prod.mk.injEq] at H
    obtain ⟨rfl, rfl⟩ := H
    go_enter Tryd.func19, Tryd.ntmps19
    go_wp2_with (first | ((with_reducible refine gate_dst (N := 1) rfl ?_); refine box_event ?hg (N := 1) ?hd (cs := #[.string a0_0, .string a0_1, .slice A0_2 l0_2.length c0_2]) (t := 28) ?hr ?_; (case hd => rfl); (case hg => rfl); (case hr => first | (go_simp; done) | (go_simp; rfl)); intro gb163 hg w10 hbox hb; have n0_ := Aside0.mk (below_step (by repeat (first | (with_reducible first | exact HB.out | apply below_alloc | apply pw_below_drewN | apply below_drew1) | exact HB.out)) hb); have n1_ := Aside0.mk (hbox); have n2_ := Aside0.mk ((by rw [hg]; exact (below_size (by repeat (first | (with_reducible first | exact HB.out | apply below_alloc | apply pw_below_drewN | apply below_drew1) | exact HB.out))) : w.heap.size ≤ gb163)); have n3_ := Aside0.mk ((by rw [hg]; exact (below_size (by repeat (first | (with_reducible first | exact HB.out | apply below_alloc | apply pw_below_drewN | apply below_drew1) | exact HB.out))) : w.heap.size ≤ gb163)); clear HB; have HB := n0_; have BK163 := n1_; have GW163 := n2_; have GE163 := n3_; clear n0_ n1_ n2_ n3_; clear hb hbox hg; have hcz11_0 : w10.cell? ⟨gb163, 0, none⟩ = some (.string a0_0) := (blk_cell BK163.out 0).trans rfl; have hcz11_1 : w10.cell? ⟨gb163, 1, none⟩ = some (.string a0_1) := (blk_cell BK163.out 1).trans rfl; have hcz11_2 : w10.cell? ⟨gb163, 2, none⟩ = some (.slice A0_2 l0_2.length c0_2) := (blk_cell BK163.out 2).trans rfl; have hfz11_0 := blk_frozen BK163.out 0; have hfz11_1 := blk_frozen BK163.out 1; have hfz11_2 := blk_frozen BK163.out 2) | ((with_reducible refine gate_callee (f := 33) rfl ?_); refine goesL_ (some 5) rfl rfl Tryd.func33 (by kernel_rfl) rfl #[.agg #[.string a0_0, .string a0_1, .slice A0_2 l0_2.length c0_2]] rfl (by (try simp only [List.map_toArray, List.map_cons, List.map_nil]); first | done | rfl | (simp only [List.length_drop, List.length_take]; rfl)) ?_; (with_reducible refine (spec_plGood.calls k a0_0 a0_1 _ _ l0_2 false _ ?side1 ?side2 A2.out).mono ?_); (case side1 => repeat (first | exact (Kd.C_below HR0_2.out HB.out) | (with_reducible refine Kd.C_alloc ?_ _) | (with_reducible refine Kd.C_drewN ?_ _) | (with_reducible refine Kd.C_drew ?_))); (case side2 => exact HC0_2.out); rintro e w12 ⟨rfl, hb⟩; refine ⟨_, rfl, ?_⟩; have n0_ := Aside0.mk (blk_below (g := gb163) (o := .cells #[.string a0_0, .string a0_1, .slice A0_2 l0_2.length c0_2] 28 (0, 0)) (by (with_reducible repeat (first | refine blk_drewN ?_ _ | refine blk_drew ?_ | refine blk_alloc ?_ _)); exact BK163.out) hb); have n1_ := Aside0.mk (below_step (by repeat (first | (with_reducible first | exact HB.out | apply below_alloc | apply pw_below_drewN | apply below_drew1 | refine below_set ?_ GE163.out) | exact HB.out)) hb); clear BK163; clear HB; have BK163 := n0_; have HB := n1_; clear n0_ n1_; (try clear hb); (try clear hb2); (try clear hk); (try clear hi)))
    go_ret2
    exact ⟨by first | rfl | (simp [errW_none, errW_some] <;> rfl) | (simp [*, errW_none, errW_some] <;> rfl), by repeat (first | (with_reducible first | exact HB.out | apply below_alloc | apply pw_below_drewN | apply below_drew1 | refine below_set ?_ GE163.out) | exact HB.out)⟩

end Go.Proofs.YtmplmfoacnnieaaDoor.PFnExactCountPlates
