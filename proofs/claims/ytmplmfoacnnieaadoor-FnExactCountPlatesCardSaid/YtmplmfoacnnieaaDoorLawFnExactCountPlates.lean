/- The row of FnExactCountPlates and its tied card: for every input, where the listed tables hold what the program lays (which the tie shows of the program's text), the law returns true. -/
import Derived.Test.YtmplmfoacnnieaaDoorRows
import Derived.Test.YtmplmfoacnnieaaDoorTie
import Derived.Test.YtmplmfoacnnieaaDoorCards
import Derived.Test.YtmplmfoacnnieaaDoorPFnExactCountPlatesx7
import Derived.Test.YtmplmfoacnnieaaDoorPureFnExactCountPlates
import Derived.WalkKit
import Derived.ProofKit
import Derived.OpenShut
import Derived.ShutString
import Derived.ChangeOld
import Derived.Below
import Derived.SizedLaws
import Derived.LaidMore
import Derived.Deep.Strs
import Derived.Deep.DeepHandedRow
import Derived.SevenTiedAt
namespace Go.Proofs.YtmplmfoacnnieaaDoor.fnExactCountPlates
open Go.ChangeShapes Go.WideShapes Go.ChangeAt Go.RowKit Go.Proofs.YtmplmfoacnnieaaDoorW.PrintWords Go.Deep
open Go.ChangeMaps (open_string shut_string)
set_option linter.unusedVariables false
theorem own : ownKnob Tryd.prog.godebug = none := by kernel_rfl

theorem laidOut : laidOutB Tryd.prog = true := by kernel_rfl
theorem cells9 : Tryd.prog.cellsOf 9 = 1 := by kernel_rfl
theorem cells22 : Tryd.prog.cellsOf 22 = 1 := by kernel_rfl
theorem cells24 : Tryd.prog.cellsOf 24 = 3 := by kernel_rfl
set_option maxRecDepth 100000 in
theorem open_scheme {H : Type} {enc : TypeId × Value → H} {W : World} {base : Nat} {v : Value} {d : DataW H} {p : List MemPlace} (hv : Value.okWide Tryd.prog W .any base 24 v) (h : DataW.Trod enc Tryd.prog W 0 (fun _ => true) true 24 v d p) :
    ∃ (s0 s1 : ByteArray) (A : Option Addr) (c : Nat) (l : List ByteArray), v = .agg #[.string s0, .string s1, .slice A l.length c] ∧ Kd.C Kd.string W A l.length l ∧ l.length ≤ c ∧ s0.size ≤ maxLen ∧ s1.size ≤ maxLen ∧ l.length ≤ maxLen ∧ ∀ x ∈ l, x.size ≤ maxLen := by
  obtain ⟨cs, rfl, hcs⟩ := okWide_struct Tryd.underlying24 hv
  obtain ⟨fuel, hf0⟩ := h
  have hf : DataW.trod enc Tryd.prog W 0 (fun _ => true) true fuel 24 cs.toList = some (d, p) := hf0
  rw [cells24] at hcs
  obtain ⟨y0, y1, y2, n, hx, hl, h0, h1, h2⟩ := trod_struct3 Tryd.underlying24 hf
  obtain ⟨c0, c1, c2, rfl⟩ : ∃ c0 c1 c2, cs = #[c0, c1, c2] := by
    obtain ⟨l⟩ := cs
    match l, hcs with
    | [c0, c1, c2], _ => exact ⟨c0, c1, c2, rfl⟩
  replace h0 : DataW.trod enc Tryd.prog W 0 (fun _ => true) true n 9 [c0] = some y0 := by
    have e : ([c0, c1, c2] : List Value).take (Tryd.prog.cellsOf 9) = [c0] := by rw [cells9]; rfl
    have := h0
    simp only [List.drop_zero] at this
    rw [← e]; exact this
  replace h1 : DataW.trod enc Tryd.prog W 0 (fun _ => true) true n 9 [c1] = some y1 := by
    have e : (([c0, c1, c2] : List Value).drop 1).take (Tryd.prog.cellsOf 9) = [c1] := by rw [cells9]; rfl
    rw [← e]; exact h1
  replace h2 : DataW.trod enc Tryd.prog W 0 (fun _ => true) true n 22 [c2] = some y2 := by
    have e : (([c0, c1, c2] : List Value).drop 2).take (Tryd.prog.cellsOf 22) = [c2] := by rw [cells22]; rfl
    rw [← e]; exact h2
  obtain ⟨s0, e0, _, z0⟩ := DataW.trod_string Tryd.underlying9 h0
  obtain ⟨s1, e1, _, z1⟩ := DataW.trod_string Tryd.underlying9 h1
  simp at e0 e1
  subst e0 e1
  rcases open_strs Tryd.underlying22 Tryd.underlying9 cells9 h2 with ⟨e2, _⟩ | ⟨a, len, cap, m, Sx, e2, _, hlc, hcm, hm, _, hcell⟩
  · simp at e2
    subst e2
    exact ⟨s0, s1, none, 0, [], rfl, ⟨rfl, Nat.zero_le _, fun hn => absurd hn (Nat.lt_irrefl 0)⟩, Nat.le_refl _, z0, z1, Nat.zero_le _, fun x hx => by simp at hx⟩
  · simp at e2
    subst e2
    rw [if_pos rfl] at hm
    subst hm
    have hln : ((List.range len).map Sx).length = len := by simp
    have hml : maxLen = 9223372036854775807 := rfl
    refine ⟨s0, s1, some a, m, (List.range len).map Sx, by rw [hln], ⟨rfl, by rw [hln]; omega, fun _ => ⟨a, rfl, fun j q hj => ⟨[.string q], rfl, rfl, fun i u hu => ?_⟩⟩⟩, by rw [hln]; exact hlc, z0, z1, by rw [hln]; omega, fun x hx => ?_⟩
    · have hjl : j < len := by have := (List.getElem?_eq_some_iff.1 hj).1; simpa using this
      have hq : Sx j = q := by simpa [hjl] using hj
      have hi : i = 0 := by
        have := (List.getElem?_eq_some_iff.1 hu).1
        simpa using this
      subst hi
      simp at hu
      subst hu
      have h5 := (hcell j (by omega)).1
      rw [hq] at h5
      simpa [Kd.string, Kd.scalar] using h5
    · obtain ⟨i, hi, rfl⟩ := List.mem_map.1 hx
      exact (hcell i (by have := List.mem_range.1 hi; omega)).2

/-- The table of a pinned variable, as cells. -/
def tabCells : DataW Unit → Array Value
  | .agg l => (l.map fun | .lit (.int k n) => Value.int k n | _ => .int .u8 0).toArray
  | _ => #[]
/-- The heap that the door's run leaves, the pinned table laid too. -/
noncomputable def laidWorld (os : Os) : World :=
  { World.doorLaid Tryd.prog 400 os with heap := (World.doorLaid Tryd.prog 400 os).heap.modify 1 fun
      | .cells _ t frozen => .cells (tabCells Rows.laid_unicode_utf8_first) t frozen
      | o => o }
/-- That heap meets the condition. -/
theorem door_met (os : Os) (args : Array Value) : laidMetH Tryd.prog Rows.fnExactCountPlatesRow.laid ((laidWorld os).forCall (fun _ _ => 0) ⟨#[], args, []⟩).memory :=
  laidMetH_of_parts3 (fuel := 8) (laidMet_of_run' 8 (by kernel_rfl) (by kernel_rfl)) (by kernel_rfl) (by kernel_rfl)
theorem witness_row (os : Os) {H : Type} (enc : TypeId × Value → H) :
    (OpenSpec.ofChange Rows.fnExactCountPlatesSpec).preRow enc Tryd.prog Tryd.f5 Rows.fnExactCountPlatesRow.domain false Rows.fnExactCountPlatesRow.laid ((laidWorld os).forCall (fun _ _ => 0) ⟨#[], #[.agg #[.string ByteArray.empty, .string ByteArray.empty, .slice none 0 0]], []⟩).memory #[.agg #[.string ByteArray.empty, .string ByteArray.empty, .slice none 0 0]] := by
  have hw : (DataW.whole enc Tryd.prog ((laidWorld os).forCall (fun _ _ => 0) ⟨#[], #[.agg #[.string ByteArray.empty, .string ByteArray.empty, .slice none 0 0]], []⟩).memory Tryd.f5.params.toList (OpenSpec.ofChange Rows.fnExactCountPlatesSpec).vars false (#[.agg #[.string ByteArray.empty, .string ByteArray.empty, .slice none 0 0]] : Array Value).toList 8).map (fun x => (x.1, x.2.1)) =
      some ([.agg [.lit (.string []), .lit (.string []), .nil]], []) := by kernel_rfl
  obtain ⟨⟨x1, x2, x3⟩, hx, hx1⟩ := Option.map_eq_some_iff.1 hw
  simp only [Prod.mk.injEq] at hx1
  obtain ⟨rfl, rfl⟩ := hx1
  exact OpenSpec.preRow_of_cond 8 hx (by kernel_rfl) (fun k hk => by cases hk) (by kernel_rfl) (door_met os _)
set_option maxRecDepth 100000 in
theorem lifted (os : Os) (started : os.Started) (H : Type) (enc : TypeId × Value → H) (F : Stop.Interp) :
    ReturnsInHanded {} Tryd.checked os 5 .any ((OpenSpec.ofChange Rows.fnExactCountPlatesSpec).preRow enc Tryd.prog Tryd.f5 Rows.fnExactCountPlatesRow.domain false Rows.fnExactCountPlatesRow.laid) (((OpenSpec.ofChange Rows.fnExactCountPlatesSpec).at F).post enc Tryd.prog Tryd.f5 false true false false) := by
  refine returnsInHanded_of_row (C := Tryd.checked) (s := OpenSpec.ofChange Rows.fnExactCountPlatesSpec) own started (by kernel_rfl) Tryd.func5
    (witness_row_at (enc := enc) (C := Tryd.checked) false (laidWorld os) #[.agg #[.string ByteArray.empty, .string ByteArray.empty, .slice none 0 0]] rfl (by kernel_rfl) (by kernel_rfl) (by kernel_rfl) (witness_row os enc)) ?_
  intro W base args ds gs before hval0 hW hcnd _ hsz0 hL hsh _
  have hval : ∀ (j : Nat) t v, Tryd.f5.params[j]? = some t → args[j]? = some v → Value.okWide Tryd.prog W .any base t v := hval0
  have hW' := hW
  obtain ⟨p, q, hA0, hV, rfl, hfz, hnd⟩ := hW
  have hA : DataW.TrodAll enc Tryd.prog W 0 (fun _ => true) true Tryd.f5.params.toList args.toList ds p := hA0
  rw [Tryd.params5] at hA hval
  obtain ⟨v0, vs0, d0, ds0, p0, q0, hargs, rfl, rfl, h0, r0⟩ := trodAll_cons hA
  obtain ⟨rfl, rfl, rfl⟩ := trodAll_nil r0
  obtain rfl : args = #[v0] := by cases args; simp_all
  obtain ⟨rfl, rfl⟩ := trodVars_none hV
  have k0 := h0
  obtain ⟨s0, b0, A0, c0, l0, rfl, hC0, hc0, z0, u0, m0, n0⟩ := open_scheme (hval 0 24 v0 rfl rfl) h0
  clear hA0 hval0 hsz0
  simp only [List.append_nil] at hW'
  have hlt : ∀ x ∈ p0, x.block < W.heap.size := fun x hx => by simpa using hW'.lt x (by simpa using hx)
  obtain ⟨k, hk⟩ := Pure.FnExactCountPlates s0 b0 l0 z0 u0 m0 n0
  refine (PFnExactCountPlates.laws_FnExactCountPlates.calls k s0 b0 A0 c0 l0 true W hC0 hc0 hk (Tryd.laysM144.s1_3 W hsh)).mono fun e W' ⟨he, bel⟩ => ?_
  subst he
  exact ⟨_, rfl, _, _, _, [], _, [], hW', trodAll_mk1 (shut_bool Tryd.underlying4 _), (trodAll_cons_mk (Below.trod laidOut (by kernel_rfl) (of_decide_eq_true (by kernel_rfl)) k0 bel (fun x hx => hlt x (by simp [hx]))) trodAll_mk0), rfl, bel.frame _, fun h => by cases h⟩
theorem over : Rows.FnExactCountPlatesSaid :=
  OpenClaim.holds_of_cond 5 Tryd.f5 rfl rfl rfl rfl rfl rfl rfl ⟨rfl, rfl, rfl, rfl, rfl⟩ rfl rfl rfl rfl rfl (by kernel_rfl) Tryd.func5 (by kernel_rfl)
    (of_decide_eq_true (by kernel_rfl)) (by unfold Func.isWrapper; first | (rw [if_pos (by decide +kernel)]; kernel_rfl) | (rw [if_neg (by decide +kernel)]; exact ⟨rfl, rfl⟩))
    (fun os started H enc _ F => by rw [OpenClaim.pre_eq_preRow]; exact lifted os started H enc F)
theorem card_holds : Rows.FnExactCountPlatesCardSaid :=
  Claim7.holds_tied_plain_at .later [] [.data, .pinned] true (true, "51b707bc9ef5bf923c97fc5af121671a6811f49f4776f5f218f2a864c9882f8e") false
    over (fun _ h => by cases h) (by kernel_rfl) (fun _ h => by cases h) fnExactCountPlates_row_tie rfl ⟨rfl, rfl⟩ (by kernel_rfl) rfl
    (fun f fn hf hfn => by
      obtain rfl : f = 5 := Option.some.inj ((show Tryd.prog.funcNamed "loop.example/g01395/laws.FnExactCountPlates" = some 5 by kernel_rfl).symm.trans hf) |>.symm
      obtain rfl : fn = Tryd.f5 := (Option.some.inj (Tryd.func5.symm.trans hfn)).symm
      exact ⟨by kernel_rfl, fun j t ht => by
        rw [Tryd.params5] at ht
        have hm : t ∈ [24] := by simpa using Array.mem_of_getElem? ht
        have hall : ([24].all fun u => !Tryd.prog.wantsStandIn u) = true := by kernel_rfl
        exact (show Tryd.prog.wantsStandIn t = false by simpa using List.all_eq_true.1 hall t hm)⟩)
    (by kernel_rfl)
#print axioms card_holds
end Go.Proofs.YtmplmfoacnnieaaDoor.fnExactCountPlates
namespace Go.Proofs.YtmplmfoacnnieaaDoor
/-- The card, under a short name, for the claim. -/
theorem fnExactCountPlates_holds : Rows.FnExactCountPlatesCardSaid := fnExactCountPlates.card_holds
end Go.Proofs.YtmplmfoacnnieaaDoor
