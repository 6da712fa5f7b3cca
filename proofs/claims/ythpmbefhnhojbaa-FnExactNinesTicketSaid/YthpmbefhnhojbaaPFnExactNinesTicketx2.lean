-- Laid by a program of this session (wip/myprint.py) out of the translation; some contracts in it are the session's own.
import Derived.Test.YthpmbefhnhojbaaPFnExactNinesTicketx0
import Derived.Test.YthpmbefhnhojbaaPFnExactNinesTicketx1
namespace Go.Proofs.Ythpmbefhnhojbaa.PFnExactNinesTicket
open Go.RowKit Go.Proofs.YthpmbefhnhojbaaW.PrintWords Go.Proofs.YthpmbefhnhojbaaW.PrintLast Go.Proofs.YthpmbefhnhojbaaW.PrintMore
attribute [local go_sem] max2_int min2_int max_two min_two max_three min_three max_four min_four   -- for this text's walks alone
set_option linter.unusedVariables false
set_option linter.unusedSimpArgs false

/-! ### impl_NinesTicket: function 24 -/
-- --making --rounds
-- included rowkit
/-- Block B's first n cells are the bytes xs, and none of them is frozen. -/
def RowB (W : World) (B n : Nat) (xs : List Int) : Prop :=
  B < W.heap.size ∧ xs.length = n ∧ (∀ j : Nat, j < n → W.cell? ⟨B, j, none⟩ = some (.int .u8 (rd xs j))) ∧ (∀ j : Nat, j < n → W.frozen? ⟨B, j, none⟩ = false)
theorem rowB_made (w : World) (s : ByteArray) (cap : Nat) (e : TypeId) :
    RowB (w.alloc (.cells (bytesRow s cap) e ((bytesRow s cap).size, (bytesRow s cap).size + 1))) w.heap.size s.size (bytesOf s) := by
  have hs : s.size ≤ (bytesRow s cap).size := by
    have h1 : s.data.size = s.size := rfl
    simp [bytesRow] <;> omega
  refine ⟨by simp, bytesOf_length s, fun j hj => ?_, fun j hj => ?_⟩
  · rw [World.cell?_alloc_mark]
    have h0 : j < s.data.size := hj
    have h1 : j < (s.data.map (fun b => Value.int .u8 b.toNat)).size := by simpa using h0
    unfold bytesRow
    rw [Array.getElem?_append_left h1, Array.getElem?_eq_getElem h1]
    rw [rd_bytesOf]
    have hb : bt s (j : Int) = (s.data[j].toNat : Int) := by
      unfold bt
      have h2 : (j : Int).toNat < s.size := by simpa using hj
      rw [dif_pos h2]
      rfl
    rw [hb]
    simp
  · rw [World.frozen?_alloc_mark]
    simp; omega
theorem rowB_set {W : World} {B n : Nat} {xs : List Int} (h : RowB W B n xs) (i : Nat) (hi : i < n) (v : Int) :
    RowB (W.setCell ⟨B, i, none⟩ (.int .u8 v)) B n (xs.set i v) := by
  obtain ⟨h0, h1, h2, h3⟩ := h
  refine ⟨by simpa [World.setCell] using h0, by simpa using h1, fun j hj => ?_, fun j hj => ?_⟩
  · by_cases e : j = i
    · subst e
      rw [World.cell?_setCell_same (h := h2 j hj)]
      have : j < xs.length := by omega
      simp [rd, this]
    · rw [World.cell?_setCell_other (w := W) (a := ⟨B, i, none⟩) (b := ⟨B, j, none⟩) (h := fun c => e (congrArg Addr.off c).symm), h2 j hj]
      have e' : ¬ i = j := fun c => e c.symm
      simp [rd, List.getD_eq_getElem?_getD, List.getElem?_set, e']
  · rw [World.frozen?_setCell]; exact h3 j hj
theorem rowB_block {W W' : World} {B n : Nat} {xs : List Int} (h : RowB W B n xs) (hb : W'.heap[B]? = W.heap[B]?) : RowB W' B n xs := by
  obtain ⟨h0, h1, h2, h3⟩ := h
  have hs : B < W'.heap.size := by
    rcases Nat.lt_or_ge B W'.heap.size with h | h
    · exact h
    · rw [Array.getElem?_eq_none h] at hb
      rw [Array.getElem?_eq_getElem h0] at hb
      cases hb
  exact ⟨hs, h1, fun j hj => (World.cell?_of_block (w := W) hb).trans (h2 j hj), fun j hj => (World.frozen?_of_block (w := W) hb).trans (h3 j hj)⟩
theorem rowB_below {W W' : World} {B n : Nat} {xs : List Int} (h : RowB W B n xs) (hb : Below W.heap.size W W') : RowB W' B n xs := rowB_block h (hb.block B h.1)
theorem rowB_drewN {W : World} {B n : Nat} {xs : List Int} (h : RowB W B n xs) (m : Nat) : RowB (W.drewN m) B n xs := rowB_block h rfl
/-- 'string(b)' of such a row. -/
theorem rowB_string {P : Program} {W : World} {B n cap : Nat} {xs : List Int} {src dst e : TypeId} (h : RowB W B n xs) (hx : ∀ c ∈ xs, 0 ≤ c ∧ c < 256)
    (hs : P.underlying src = some (.slice e)) (he : P.underlying e = some (.int .u8)) (hd : P.underlying dst = some .string) :
    (convert src dst (.slice (some ⟨B, 0, none⟩) n cap)).run P W = .ok (.string (strOfNums xs)) W := by
  obtain ⟨h0, h1, h2, h3⟩ := h
  have := run_convert_bytes_back (P := P) W src dst e ⟨B, 0, none⟩ cap (xs.map fun c => UInt8.ofNat c.toNat) hs he hd (fun j hj => by
    have hj' : j < n := by simpa [h1] using hj
    have hj2 : j < xs.length := by omega
    have hm := hx xs[j] (List.getElem_mem hj2)
    rw [Addr.add_lit, Nat.zero_add, h2 j hj']
    simp [rd, hj2]
    omega)
  rw [show (xs.map fun c => UInt8.ofNat c.toNat).length = n by simpa using h1] at this
  rw [this]
  simp [strOfNums]

def ninesL : Nat → Nat → List Int → List Int
  | 0, _, xs => xs
  | d + 1, i, xs => ninesL d (i + 1) (xs.set i ((105 - rd xs i) % 256))
theorem ninesL_byts : ∀ (d i : Nat) (xs : List Int), (∀ c ∈ xs, 0 ≤ c ∧ c < 256) → ∀ c ∈ ninesL d i xs, 0 ≤ c ∧ c < 256
  | 0, _, xs, h => h
  | d + 1, i, xs, h => ninesL_byts d (i + 1) _ (fun c hc => by
      rcases List.mem_or_eq_of_mem_set hc with hc | rfl
      · exact h c hc
      · omega)
def impl_NinesTicket.f (k : Nat) (a0 : ByteArray) : Option (ByteArray × Bool) := (impl_IsTicket.f k a0).bind fun t => if t = true then (if a0.size ≤ 1048576 then some (strOfNums (ninesL a0.size 0 (bytesOf a0)), true) else none) else some ((⟨#[]⟩ : ByteArray), false)
theorem impl_NinesTicket.mono : ∀ a0 k, LeO (impl_NinesTicket.f k a0) (impl_NinesTicket.f (k + 1) a0) := by
  intro a0 k
  unfold impl_NinesTicket.f
  exact LeO.bind (impl_IsTicket.mono _ _) (fun _ => LeO.refl _)
set_option maxHeartbeats 8000000 in
set_option maxRecDepth 100000 in
theorem impl_NinesTicket.calls (k : Nat) (a0 : ByteArray) (r1 : ByteArray) (r2 : Bool) (w : World) (h : impl_NinesTicket.f k a0 = some (r1, r2)) :
    Calls Try.prog 24 #[.string a0] w fun e w' => e = .returned (.tuple #[.string r1, .bool r2]) ∧ Below w.heap.size w w' := by
  unfold impl_NinesTicket.f at h
  replace h := Option.bind_eq_some_iff.mp h
  obtain ⟨t, A20, h⟩ := h
  have A2 := Aside0.mk A20
  clear A20
  cases t with
  | false =>
    simp at h
    obtain ⟨rfl, rfl⟩ := h
    go_enter Try.func24, Try.ntmps24
    go_wp2_with (first | ((with_reducible refine gate_callee (f := 16) rfl ?_); refine goesL_ (some 8) rfl rfl Try.func16 (by kernel_rfl) rfl #[.string a0] rfl (by (try simp only [List.map_toArray, List.map_cons, List.map_nil]); first | done | rfl) ?_; (with_reducible refine (impl_IsTicket.calls k a0 false _ A2.out).mono ?_); rintro e w' ⟨rfl, ⟨nd, rfl⟩⟩; refine ⟨_, rfl, ?_⟩))
    go_ret2
    exact ⟨rfl, (Drawn0.below ⟨_, rfl⟩)⟩
  | true =>
    by_cases hz : a0.size ≤ 1048576
    case neg => rw [if_pos rfl, if_neg hz] at h; cases h
    rw [if_pos rfl, if_pos hz] at h
    have hE := Option.some.inj h
    rw [Prod.mk.injEq] at hE
    obtain ⟨hE1, rfl⟩ := hE
    have HE1 := Aside0.mk hE1
    clear hE1 h
    have hcv := fun W => run_bytes_of_string (P := Try.prog) W 9 44 5 a0 Try.underlying9 Try.underlying44 Try.underlying5
    go_enter Try.func24, Try.ntmps24
    go_wp2_with (first | ((with_reducible refine gate_callee (f := 16) rfl ?_); refine goesL_ (some 8) rfl rfl Try.func16 (by kernel_rfl) rfl #[.string a0] rfl (by (try simp only [List.map_toArray, List.map_cons, List.map_nil]); first | done | rfl) ?_; (with_reducible refine (impl_IsTicket.calls k a0 true _ A2.out).mono ?_); rintro e w' ⟨rfl, ⟨nd, rfl⟩⟩; refine ⟨_, rfl, ?_⟩))
    clear hcv
    have HR := Aside0.mk (rowB_made (w.drewN (nd + 1)) a0 (grownCap (w.drewN nd) a0.size 0 5) 5)
    have HZ := Aside0.mk hz
    go_loopg [14] a0.size (fun d v14 w' => ∃ (i : Nat) (xs : List Int), v14 = .int .i64 i ∧ Aside0 (i + d = a0.size) ∧ Aside0 (RowB w' w.heap.size a0.size xs) ∧ Aside0 (∀ c ∈ xs, 0 ≤ c ∧ c < 256) ∧ Aside0 (strOfNums (ninesL d i xs) = r1) ∧ Aside0 (Below w.heap.size w w'))
    case atStart => exact ⟨0, bytesOf a0, rfl, ⟨by omega⟩, HR, ⟨fun c hc => by simp only [bytesOf, List.mem_map] at hc; obtain ⟨b, _, rfl⟩ := hc; have := b.toNat_lt; omega⟩, HE1, ⟨((Drawn0.below (w := w) ⟨_, rfl⟩)).alloc (Nat.le_refl _) _⟩⟩
    case round =>
      clear HR HE1
      obtain ⟨i, xs, rfl, HI, HR, HX, HE, HB⟩ := hrel
      have hi := HI.out
      cases gk with
      | zero =>
        have hc : decide ((i : Int) < (a0.size : Int)) = false := decide_eq_false (by omega)
        have hcv := rowB_string (P := Try.prog) (cap := grownCap (w.drewN nd) a0.size 0 5) HR.out HX.out Try.underlying44 Try.underlying5 Try.underlying9
        have hlt : ¬ (i : Int) < (a0.size : Int) := by omega
        clear hi
        go_wp2
        go_ret2
        exact ⟨by rw [← HE.out]; rfl, HB.out⟩
      | succ d =>
        have hlt : i < a0.size := by omega
        have hcell := HR.out.2.2.1 i hlt
        have hfr := HR.out.2.2.2 i hlt
        have hxl := HR.out.2.1
        have hb := HX.out (rd xs i) (by have : i < xs.length := by omega
                                        simp [rd, this])
        obtain ⟨hb0, hb1⟩ := hb
        have HRS := Aside0.mk (rowB_set HR.out i hlt ((105 - rd xs (i : Int)) % 256))
        clear hxl hi
        go_wp2
        go_roundg d
        case measure => omega
        case rel => exact ⟨i + 1, xs.set i ((105 - rd xs (i : Int)) % 256), by go_num, ⟨by have := HI.out; omega⟩, HRS, ⟨fun c hc => by
          rcases List.mem_or_eq_of_mem_set hc with hc | rfl
          · exact HX.out c hc
          · omega⟩, HE, ⟨HB.out.setCell (Nat.le_refl _) _⟩⟩

/-! ### laws_FnExactNinesTicket: function 8 -/
def laws_FnExactNinesTicket.f (k : Nat) (a0 : ByteArray) : Option (Bool) := if (a0.size : Int) > 1048576 then (some true) else ((spec_NinesTicket.f k a0).bind fun bt114 => ((impl_NinesTicket.f k a0).bind fun bt116 => (if bt116.1.toList = bt114.1.toList then (if (bt116.2 != bt114.2) = true then (some false) else (some true)) else (some false))))
theorem laws_FnExactNinesTicket.mono : ∀ a0 k, LeO (laws_FnExactNinesTicket.f k a0) (laws_FnExactNinesTicket.f (k + 1) a0) := by
  intro a0 k
  unfold laws_FnExactNinesTicket.f
  repeat' first
      | (with_reducible exact impl_NinesTicket.mono _ _)
      | (with_reducible exact spec_NinesTicket.mono _ _)
      | (with_reducible exact LeO.refl _)
      | (with_reducible exact LeO.none _)
      | (with_reducible refine LeO.ite ?_ ?_)
      | (with_reducible refine LeO.bind ?_ (fun _ => ?_))
      | exact impl_NinesTicket.mono _ _
      | exact spec_NinesTicket.mono _ _
      | exact LeO.none _
      | refine LeO.ite ?_ ?_
      | refine LeO.bind ?_ (fun _ => ?_)
set_option maxHeartbeats 8000000 in
set_option maxRecDepth 100000 in
theorem laws_FnExactNinesTicket.calls (k : Nat) (a0 : ByteArray) (r : Bool) (w : World) (h : laws_FnExactNinesTicket.f k a0 = some r) :
    Calls Try.prog 8 #[.string a0] w fun e w' => e = .returned (.bool r) ∧ Below w.heap.size w w' := by
  have HB := Aside0.mk (Below.refl w.heap.size w)
  have H : (if (a0.size : Int) > 1048576 then (some true) else ((spec_NinesTicket.f k a0).bind fun bt114 => ((impl_NinesTicket.f k a0).bind fun bt116 => (if bt116.1.toList = bt114.1.toList then (if (bt116.2 != bt114.2) = true then (some false) else (some true)) else (some false))))) = some r := h
  clear h
  by_cases c2 : (a0.size : Int) > 1048576
  · rw [if_pos c2] at H
    have c2b0 : decide (1048576 < (a0.size : Int)) = true := decide_eq_true c2
    have c2b1 : decide (1048576 < a0.size) = true := decide_eq_true (by omega)
    clear c2
    obtain rfl := Option.some.inj H
    go_enter Try.func8, Try.ntmps8
    go_wp2
    go_ret
    exact ⟨by first | rfl | (simp [errW_none, errW_some] <;> rfl) | (simp [*, errW_none, errW_some] <;> rfl), by repeat (first | (with_reducible first | exact HB.out | apply below_alloc | apply pw_below_drewN | apply below_drew1) | exact HB.out)⟩
  · rw [if_neg c2] at H
    have c2b0 : decide (1048576 < (a0.size : Int)) = false := decide_eq_false c2
    have c2b1 : decide (1048576 < a0.size) = false := decide_eq_false (by omega)
    clear c2
    replace H := Option.bind_eq_some_iff.mp H
    obtain ⟨⟨t114, t115⟩, A30, H⟩ := H
    replace H : ((impl_NinesTicket.f k a0).bind fun bt116 => (if bt116.1.toList = t114.toList then (if (bt116.2 != t115) = true then (some false) else (some true)) else (some false))) = some r := H
    have A3 := Aside0.mk A30
    clear A30
    replace H := Option.bind_eq_some_iff.mp H
    obtain ⟨⟨t116, t117⟩, A40, H⟩ := H
    replace H : (if t116.toList = t114.toList then (if (t117 != t115) = true then (some false) else (some true)) else (some false)) = some r := H
    have A4 := Aside0.mk A40
    clear A40
    by_cases c5 : t116.toList = t114.toList
    · rw [if_pos c5] at H
      have c5b0 : (t116.toList == t114.toList) = true := beq_iff_eq.mpr c5
      have c5b1 : (t116.toList != t114.toList) = false := bne_eq_false_iff_eq.mpr c5
      clear c5
      by_cases c6 : (t117 != t115) = true
      · rw [if_pos c6] at H
        have c6b0 : (t117 != t115) = true := c6
        (try (have c6b1 : decide (t117 = t115) = false := by simpa using c6))
        (try (have c6b2 : (t117 == t115) = false := by simpa using c6))
        (try (have c6b3 : ¬ (t117 = t115) := by simpa using c6))
        clear c6
        obtain rfl := Option.some.inj H
        go_enter Try.func8, Try.ntmps8
        go_wp2_with (first | ((with_reducible refine gate_callee (f := 23) rfl ?_); refine goesL_ (some 12) rfl rfl Try.func23 (by kernel_rfl) rfl #[.string a0] rfl (by (try simp only [List.map_toArray, List.map_cons, List.map_nil]); first | done | rfl | (simp only [List.length_drop, List.length_take]; rfl)) ?_; (with_reducible refine (spec_NinesTicket.calls k a0 t114 t115 _ A3.out).mono ?_); rintro e w7 ⟨rfl, hb⟩; refine ⟨_, rfl, ?_⟩; have n0_ := Aside0.mk (below_step (by repeat (first | (with_reducible first | exact HB.out | apply below_alloc | apply pw_below_drewN | apply below_drew1) | exact HB.out)) hb); clear HB; have HB := n0_; clear n0_; (try clear hb); (try clear hb2); (try clear hk); (try clear hi)) | ((with_reducible refine gate_callee (f := 24) rfl ?_); refine goesL_ (some 17) rfl rfl Try.func24 (by kernel_rfl) rfl #[.string a0] rfl (by (try simp only [List.map_toArray, List.map_cons, List.map_nil]); first | done | rfl | (simp only [List.length_drop, List.length_take]; rfl)) ?_; (with_reducible refine (impl_NinesTicket.calls k a0 t116 t117 _ A4.out).mono ?_); rintro e w8 ⟨rfl, hb⟩; refine ⟨_, rfl, ?_⟩; have n0_ := Aside0.mk (below_step (by repeat (first | (with_reducible first | exact HB.out | apply below_alloc | apply pw_below_drewN | apply below_drew1) | exact HB.out)) hb); clear HB; have HB := n0_; clear n0_; (try clear hb); (try clear hb2); (try clear hk); (try clear hi)))
        go_ret
        exact ⟨by first | rfl | (simp [errW_none, errW_some] <;> rfl) | (simp [*, errW_none, errW_some] <;> rfl), by repeat (first | (with_reducible first | exact HB.out | apply below_alloc | apply pw_below_drewN | apply below_drew1) | exact HB.out)⟩
      · rw [if_neg c6] at H
        have c6b0 : (t117 != t115) = false := by simpa using c6
        (try (have c6b1 : decide (t117 = t115) = true := by simpa using c6))
        (try (have c6b2 : (t117 == t115) = true := by simpa using c6))
        clear c6
        obtain rfl := Option.some.inj H
        go_enter Try.func8, Try.ntmps8
        go_wp2_with (first | ((with_reducible refine gate_callee (f := 23) rfl ?_); refine goesL_ (some 12) rfl rfl Try.func23 (by kernel_rfl) rfl #[.string a0] rfl (by (try simp only [List.map_toArray, List.map_cons, List.map_nil]); first | done | rfl | (simp only [List.length_drop, List.length_take]; rfl)) ?_; (with_reducible refine (spec_NinesTicket.calls k a0 t114 t115 _ A3.out).mono ?_); rintro e w9 ⟨rfl, hb⟩; refine ⟨_, rfl, ?_⟩; have n0_ := Aside0.mk (below_step (by repeat (first | (with_reducible first | exact HB.out | apply below_alloc | apply pw_below_drewN | apply below_drew1) | exact HB.out)) hb); clear HB; have HB := n0_; clear n0_; (try clear hb); (try clear hb2); (try clear hk); (try clear hi)) | ((with_reducible refine gate_callee (f := 24) rfl ?_); refine goesL_ (some 17) rfl rfl Try.func24 (by kernel_rfl) rfl #[.string a0] rfl (by (try simp only [List.map_toArray, List.map_cons, List.map_nil]); first | done | rfl | (simp only [List.length_drop, List.length_take]; rfl)) ?_; (with_reducible refine (impl_NinesTicket.calls k a0 t116 t117 _ A4.out).mono ?_); rintro e w10 ⟨rfl, hb⟩; refine ⟨_, rfl, ?_⟩; have n0_ := Aside0.mk (below_step (by repeat (first | (with_reducible first | exact HB.out | apply below_alloc | apply pw_below_drewN | apply below_drew1) | exact HB.out)) hb); clear HB; have HB := n0_; clear n0_; (try clear hb); (try clear hb2); (try clear hk); (try clear hi)))
        go_ret
        exact ⟨by first | rfl | (simp [errW_none, errW_some] <;> rfl) | (simp [*, errW_none, errW_some] <;> rfl), by repeat (first | (with_reducible first | exact HB.out | apply below_alloc | apply pw_below_drewN | apply below_drew1) | exact HB.out)⟩
    · rw [if_neg c5] at H
      have c5b0 : (t116.toList == t114.toList) = false := beq_eq_false_iff_ne.mpr c5
      have c5b1 : (t116.toList != t114.toList) = true := bne_iff_ne.mpr c5
      obtain rfl := Option.some.inj H
      go_enter Try.func8, Try.ntmps8
      go_wp2_with (first | ((with_reducible refine gate_callee (f := 23) rfl ?_); refine goesL_ (some 12) rfl rfl Try.func23 (by kernel_rfl) rfl #[.string a0] rfl (by (try simp only [List.map_toArray, List.map_cons, List.map_nil]); first | done | rfl | (simp only [List.length_drop, List.length_take]; rfl)) ?_; (with_reducible refine (spec_NinesTicket.calls k a0 t114 t115 _ A3.out).mono ?_); rintro e w11 ⟨rfl, hb⟩; refine ⟨_, rfl, ?_⟩; have n0_ := Aside0.mk (below_step (by repeat (first | (with_reducible first | exact HB.out | apply below_alloc | apply pw_below_drewN | apply below_drew1) | exact HB.out)) hb); clear HB; have HB := n0_; clear n0_; (try clear hb); (try clear hb2); (try clear hk); (try clear hi)) | ((with_reducible refine gate_callee (f := 24) rfl ?_); refine goesL_ (some 17) rfl rfl Try.func24 (by kernel_rfl) rfl #[.string a0] rfl (by (try simp only [List.map_toArray, List.map_cons, List.map_nil]); first | done | rfl | (simp only [List.length_drop, List.length_take]; rfl)) ?_; (with_reducible refine (impl_NinesTicket.calls k a0 t116 t117 _ A4.out).mono ?_); rintro e w12 ⟨rfl, hb⟩; refine ⟨_, rfl, ?_⟩; have n0_ := Aside0.mk (below_step (by repeat (first | (with_reducible first | exact HB.out | apply below_alloc | apply pw_below_drewN | apply below_drew1) | exact HB.out)) hb); clear HB; have HB := n0_; clear n0_; (try clear hb); (try clear hb2); (try clear hk); (try clear hi)))
      go_ret
      exact ⟨by first | rfl | (simp [errW_none, errW_some] <;> rfl) | (simp [*, errW_none, errW_some] <;> rfl), by repeat (first | (with_reducible first | exact HB.out | apply below_alloc | apply pw_below_drewN | apply below_drew1) | exact HB.out)⟩

/-- THE ONE PURE STATEMENT of laws_FnExactNinesTicket: yours. -/
def laws_FnExactNinesTicket.Pure : Prop := ∀ (a0 : ByteArray), a0.size ≤ 140737488351232 → ∃ k, laws_FnExactNinesTicket.f k a0 = some true
theorem laws_FnExactNinesTicket.walk (P : laws_FnExactNinesTicket.Pure) (a0 : ByteArray) (w : World) (w0 : a0.size ≤ 140737488351232) :
    Calls Try.prog 8 #[.string a0] w fun e w' => e = .returned (.bool true) ∧ Below w.heap.size w w' := by
  obtain ⟨k, h⟩ := P a0 w0
  refine (laws_FnExactNinesTicket.calls k a0 true w h).mono ?_
  rintro e w' ⟨rfl, hd⟩
  exact ⟨rfl, hd⟩

end Go.Proofs.Ythpmbefhnhojbaa.PFnExactNinesTicket
