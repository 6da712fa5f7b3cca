-- Laid by a program of this session (wip/myprint.py) out of the translation; some contracts in it are the session's own.
import Derived.Test.YthpmbefhnhojbaaPFnExactTurnTicketx0
import Derived.Test.YthpmbefhnhojbaaPFnExactTurnTicketx1
namespace Go.Proofs.Ythpmbefhnhojbaa.PFnExactTurnTicket
open Go.RowKit Go.Proofs.YthpmbefhnhojbaaW.PrintWords Go.Proofs.YthpmbefhnhojbaaW.PrintLast Go.Proofs.YthpmbefhnhojbaaW.PrintMore
attribute [local go_sem] max2_int min2_int max_two min_two max_three min_three max_four min_four   -- for this text's walks alone
set_option linter.unusedVariables false
set_option linter.unusedSimpArgs false

/-! ### impl_turned: function 49 -/
-- --making
-- included rowkit
/-- Block B's first n cells are the bytes xs, and none of them is frozen. -/
def RowB (W : World) (B n : Nat) (xs : List Int) : Prop :=
  B < W.heap.size ∧ xs.length = n ∧ (∀ j : Nat, j < n → W.cell? ⟨B, j, none⟩ = some (.int .u8 (rd xs j))) ∧ (∀ j : Nat, j < n → W.frozen? ⟨B, j, none⟩ = false)
theorem rowB_made (w : World) (s : ByteArray) (cap : Nat) (e : TypeId) :
    RowB (w.alloc (.cells (bytesRow s cap) e ((bytesRow s cap).size, (bytesRow s cap).size + 1))) w.heap.size s.size (bytesOf s) := by
  have hs : s.size ≤ (bytesRow s cap).size := by
    have h1 : s.data.size = s.size := rfl
    simp [bytesRow] <;> omega
  refine ⟨by simp, bytesOf_length s, fun j hj => ?_, fun j hj => ?_⟩
  · rw [World.cell?_alloc_mark]
    have h0 : j < s.data.size := hj
    have h1 : j < (s.data.map (fun b => Value.int .u8 b.toNat)).size := by simpa using h0
    unfold bytesRow
    rw [Array.getElem?_append_left h1, Array.getElem?_eq_getElem h1]
    rw [rd_bytesOf]
    have hb : bt s (j : Int) = (s.data[j].toNat : Int) := by
      unfold bt
      have h2 : (j : Int).toNat < s.size := by simpa using hj
      rw [dif_pos h2]
      rfl
    rw [hb]
    simp
  · rw [World.frozen?_alloc_mark]
    simp; omega
theorem rowB_set {W : World} {B n : Nat} {xs : List Int} (h : RowB W B n xs) (i : Nat) (hi : i < n) (v : Int) :
    RowB (W.setCell ⟨B, i, none⟩ (.int .u8 v)) B n (xs.set i v) := by
  obtain ⟨h0, h1, h2, h3⟩ := h
  refine ⟨by simpa [World.setCell] using h0, by simpa using h1, fun j hj => ?_, fun j hj => ?_⟩
  · by_cases e : j = i
    · subst e
      rw [World.cell?_setCell_same (h := h2 j hj)]
      have : j < xs.length := by omega
      simp [rd, this]
    · rw [World.cell?_setCell_other (w := W) (a := ⟨B, i, none⟩) (b := ⟨B, j, none⟩) (h := fun c => e (congrArg Addr.off c).symm), h2 j hj]
      have e' : ¬ i = j := fun c => e c.symm
      simp [rd, List.getD_eq_getElem?_getD, List.getElem?_set, e']
  · rw [World.frozen?_setCell]; exact h3 j hj
theorem rowB_block {W W' : World} {B n : Nat} {xs : List Int} (h : RowB W B n xs) (hb : W'.heap[B]? = W.heap[B]?) : RowB W' B n xs := by
  obtain ⟨h0, h1, h2, h3⟩ := h
  have hs : B < W'.heap.size := by
    rcases Nat.lt_or_ge B W'.heap.size with h | h
    · exact h
    · rw [Array.getElem?_eq_none h] at hb
      rw [Array.getElem?_eq_getElem h0] at hb
      cases hb
  exact ⟨hs, h1, fun j hj => (World.cell?_of_block (w := W) hb).trans (h2 j hj), fun j hj => (World.frozen?_of_block (w := W) hb).trans (h3 j hj)⟩
theorem rowB_below {W W' : World} {B n : Nat} {xs : List Int} (h : RowB W B n xs) (hb : Below W.heap.size W W') : RowB W' B n xs := rowB_block h (hb.block B h.1)
theorem rowB_drewN {W : World} {B n : Nat} {xs : List Int} (h : RowB W B n xs) (m : Nat) : RowB (W.drewN m) B n xs := rowB_block h rfl
/-- 'string(b)' of such a row. -/
theorem rowB_string {P : Program} {W : World} {B n cap : Nat} {xs : List Int} {src dst e : TypeId} (h : RowB W B n xs) (hx : ∀ c ∈ xs, 0 ≤ c ∧ c < 256)
    (hs : P.underlying src = some (.slice e)) (he : P.underlying e = some (.int .u8)) (hd : P.underlying dst = some .string) :
    (convert src dst (.slice (some ⟨B, 0, none⟩) n cap)).run P W = .ok (.string (strOfNums xs)) W := by
  obtain ⟨h0, h1, h2, h3⟩ := h
  have := run_convert_bytes_back (P := P) W src dst e ⟨B, 0, none⟩ cap (xs.map fun c => UInt8.ofNat c.toNat) hs he hd (fun j hj => by
    have hj' : j < n := by simpa [h1] using hj
    have hj2 : j < xs.length := by omega
    have hm := hx xs[j] (List.getElem_mem hj2)
    rw [Addr.add_lit, Nat.zero_add, h2 j hj']
    simp [rd, hj2]
    omega)
  rw [show (xs.map fun c => UInt8.ofNat c.toNat).length = n by simpa using h1] at this
  rw [this]
  simp [strOfNums]

def revN : Nat → Nat → Nat → List Int → List Int
  | 0, _, _, xs => xs
  | d + 1, i, j, xs => if i < j then revN d (i + 1) (j - 1) ((xs.set i (rd xs j)).set j (rd xs i)) else xs
theorem revN_byts : ∀ (d i j : Nat) (xs : List Int), (∀ c ∈ xs, 0 ≤ c ∧ c < 256) → i < xs.length → j < xs.length → ∀ c ∈ revN d i j xs, 0 ≤ c ∧ c < 256
  | 0, _, _, xs, h, _, _ => h
  | d + 1, i, j, xs, h, hi, hj => by
    unfold revN
    by_cases e : i < j
    · rw [if_pos e]
      refine revN_byts d (i + 1) (j - 1) _ (fun c hc => ?_) (by simp; omega) (by simp; omega)
      rcases List.mem_or_eq_of_mem_set hc with hc | rfl
      · rcases List.mem_or_eq_of_mem_set hc with hc | rfl
        · exact h c hc
        · exact h _ (by simp [rd, hj])
      · exact h _ (by simp [rd, hi])
    · rw [if_neg e]; exact h
set_option maxHeartbeats 8000000 in
set_option maxRecDepth 100000 in
theorem rev_calls (B n cap : Nat) (xs0 : List Int) (w : World) (hn1 : 1 ≤ n) (hn2 : n ≤ 1048576) (hR : RowB w B n xs0) :
    Calls Try.prog 59 #[.slice (some ⟨B, 0, none⟩) n cap] w fun e w' => e = .returned (.tuple #[]) ∧ RowB w' B n (revN n 0 (n - 1) xs0) ∧ Below B w w' := by
  have HR := Aside0.mk hR
  clear hR
  go_enter Try.func59, Try.ntmps59
  go_wp2
  go_loopg [2, 3] n (fun d v2 v3 w' => ∃ (i j : Nat) (xs : List Int), v2 = .int .i64 i ∧ v3 = .int .i64 j ∧ Aside0 (j < n) ∧ Aside0 (j ≤ d + i) ∧ Aside0 (RowB w' B n xs) ∧ Aside0 (revN d i j xs = revN n 0 (n - 1) xs0) ∧ Aside0 (Below B w w'))
  case atStart => exact ⟨0, n - 1, xs0, rfl, by first | rfl | (simp; omega) | (congr 1; omega), ⟨by omega⟩, ⟨by omega⟩, HR, ⟨rfl⟩, ⟨Below.refl _ _⟩⟩
  case round =>
    clear HR
    obtain ⟨i, j, xs, rfl, rfl, HJ, HD, HR, HE, HB⟩ := hrel
    have hjn := HJ.out
    by_cases hlt : i < j
    · cases gk with
      | zero => exact absurd HD.out (by omega)
      | succ d =>
        have hi : i < n := by omega
        have hci := HR.out.2.2.1 i hi
        have hcj := HR.out.2.2.1 j hjn
        have hfi := HR.out.2.2.2 i hi
        have hfj := HR.out.2.2.2 j hjn
        have HRW := Aside0.mk (rowB_set (rowB_set HR.out i hi (rd xs (j : Int))) j hjn (rd xs (i : Int)))
        go_wp2
        go_region
        go_wp2
        go_roundg d
        case measure => omega
        case rel => exact ⟨i + 1, j - 1, (xs.set i (rd xs (j : Int))).set j (rd xs (i : Int)), by go_num, by first | go_num | (congr 1; omega) | (simp; omega), ⟨by omega⟩, ⟨by have := HD.out; omega⟩, ⟨rowB_block HRW.out rfl⟩, ⟨by have h_ := HE.out; simp only [revN] at h_; rw [if_pos hlt] at h_; exact h_⟩, ⟨((HB.out.setCell (Nat.le_refl _) _).setCell (Nat.le_refl _) _).drew⟩⟩
    · have hge : ¬ (i : Int) < (j : Int) := by omega
      go_wp2
      go_end0
      have e : revN gk i j xs = xs := by
        cases gk with
        | zero => rfl
        | succ d => unfold revN; rw [if_neg hlt]
      exact ⟨rfl, by rw [← HE.out, e]; exact HR.out, HB.out⟩
def impl_turned.f (a0 : ByteArray) : Option ByteArray := if 1 ≤ a0.size ∧ a0.size ≤ 1048576 then some (strOfNums (revN a0.size 0 (a0.size - 1) (bytesOf a0))) else none
set_option maxHeartbeats 8000000 in
set_option maxRecDepth 100000 in
theorem impl_turned.calls (a0 : ByteArray) (r : ByteArray) (w : World) (h : impl_turned.f a0 = some r) :
    Calls Try.prog 49 #[.string a0] w fun e w' => e = .returned (.string r) ∧ Below w.heap.size w w' := by
  unfold impl_turned.f at h
  by_cases hz : 1 ≤ a0.size ∧ a0.size ≤ 1048576
  case neg => rw [if_neg hz] at h; cases h
  rw [if_pos hz] at h
  obtain ⟨hz1, hz2⟩ := hz
  have hE1 := Option.some.inj h
  have HE1 := Aside0.mk hE1
  clear hE1 h
  have hcv := fun W => run_bytes_of_string (P := Try.prog) W 9 44 5 a0 Try.underlying9 Try.underlying44 Try.underlying5
  go_enter Try.func49, Try.ntmps49
  have HR := Aside0.mk (rowB_made w a0 (grownCap w a0.size 0 5) 5)
  go_wp2_with fail
  refine (rev_calls w.heap.size a0.size (grownCap w a0.size 0 5) (bytesOf a0) _ hz1 hz2 (by exact rowB_block HR.out rfl)).mono ?_
  rintro e w' ⟨rfl, hrow, hbel⟩
  have hcv2 := rowB_string (P := Try.prog) (cap := grownCap w a0.size 0 5) hrow (revN_byts a0.size 0 (a0.size - 1) _ (fun c hc => by simp only [bytesOf, List.mem_map] at hc; obtain ⟨b, _, rfl⟩ := hc; have := b.toNat_lt; omega) (by rw [bytesOf_length]; omega) (by rw [bytesOf_length]; omega)) Try.underlying44 Try.underlying5 Try.underlying9
  have HBB := Aside0.mk hbel
  clear hrow hbel
  go_wp2
  go_ret
  exact ⟨by rw [← HE1.out]; rfl, (((Below.refl _ _).alloc (Nat.le_refl _) _).drew).trans HBB.out⟩

/-! ### impl_TurnTicket: function 28 -/
def impl_TurnTicket.f (k : Nat) (a0 : ByteArray) : Option (ByteArray × Bool) := (impl_IsTicket.f k a0).bind fun t110 => (if t110 = true then ((impl_turned.f a0).bind fun t111 => (some (t111, true))) else (some ((⟨#[]⟩ : ByteArray), false)))
theorem impl_TurnTicket.mono : ∀ a0 k, LeO (impl_TurnTicket.f k a0) (impl_TurnTicket.f (k + 1) a0) := by
  intro a0 k
  unfold impl_TurnTicket.f
  repeat' first
      | (with_reducible exact impl_IsTicket.mono _ _)
      | (with_reducible exact LeO.refl _)
      | (with_reducible exact LeO.none _)
      | (with_reducible refine LeO.ite ?_ ?_)
      | (with_reducible refine LeO.bind ?_ (fun _ => ?_))
      | exact impl_IsTicket.mono _ _
      | exact LeO.none _
      | refine LeO.ite ?_ ?_
      | refine LeO.bind ?_ (fun _ => ?_)
set_option maxHeartbeats 8000000 in
set_option maxRecDepth 100000 in
theorem impl_TurnTicket.calls (k : Nat) (a0 : ByteArray) (r1 : ByteArray) (r2 : Bool) (w : World) (h : impl_TurnTicket.f k a0 = some (r1, r2)) :
    Calls Try.prog 28 #[.string a0] w fun e w' => e = .returned (.tuple #[.string r1, .bool r2]) ∧ Below w.heap.size w w' := by
  have HB := Aside0.mk (Below.refl w.heap.size w)
  have H : ((impl_IsTicket.f k a0).bind fun t110 => (if t110 = true then ((impl_turned.f a0).bind fun t111 => (some (t111, true))) else (some ((⟨#[]⟩ : ByteArray), false)))) = some (r1, r2) := h
  clear h
  replace H := Option.bind_eq_some_iff.mp H
  obtain ⟨t110, A20, H⟩ := H
  replace H : (if t110 = true then ((impl_turned.f a0).bind fun t111 => (some (t111, true))) else (some ((⟨#[]⟩ : ByteArray), false))) = some (r1, r2) := H
  have A2 := Aside0.mk A20
  clear A20
  by_cases c3 : t110 = true
  · subst c3
    have H1 : ((impl_turned.f a0).bind fun t111 => (some (t111, true))) = some (r1, r2) := by rw [if_pos rfl] at H; exact H
    clear H
    have H := H1
    clear H1
    replace H := Option.bind_eq_some_iff.mp H
    obtain ⟨t111, A40, H⟩ := H
    replace H : (some (t111, true)) = some (r1, r2) := H
    have A4 := Aside0.mk A40
    clear A40
    simp only [Option.some.injEq, Prod.mk.injEq] at H
    obtain ⟨rfl, rfl⟩ := H
    go_enter Try.func28, Try.ntmps28
    go_wp2_with (first | ((with_reducible refine gate_callee (f := 16) rfl ?_); refine goesL_ (some 5) rfl rfl Try.func16 (by kernel_rfl) rfl #[.string a0] rfl (by (try simp only [List.map_toArray, List.map_cons, List.map_nil]); first | done | rfl | (simp only [List.length_drop, List.length_take]; rfl)) ?_; (with_reducible refine (impl_IsTicket.calls k a0 true _ A2.out).mono ?_); rintro e w' ⟨rfl, ⟨nd, rfl⟩⟩; refine ⟨_, rfl, ?_⟩) | ((with_reducible refine gate_callee (f := 49) rfl ?_); refine goesL_ (some 8) rfl rfl Try.func49 (by kernel_rfl) rfl #[.string a0] rfl (by (try simp only [List.map_toArray, List.map_cons, List.map_nil]); first | done | rfl | (simp only [List.length_drop, List.length_take]; rfl)) ?_; (with_reducible refine (impl_turned.calls a0 t111 _ A4.out).mono ?_); rintro e w5 ⟨rfl, hb⟩; refine ⟨_, rfl, ?_⟩; have n0_ := Aside0.mk (below_step (by repeat (first | (with_reducible first | exact HB.out | apply below_alloc | apply pw_below_drewN | apply below_drew1) | exact HB.out)) hb); clear HB; have HB := n0_; clear n0_; (try clear hb); (try clear hb2); (try clear hk); (try clear hi)))
    go_ret2
    exact ⟨by first | rfl | (simp [errW_none, errW_some] <;> rfl) | (simp [*, errW_none, errW_some] <;> rfl), by repeat (first | (with_reducible first | exact HB.out | apply below_alloc | apply pw_below_drewN | apply below_drew1) | exact HB.out)⟩
  · replace c3 := Bool.eq_false_iff.mpr c3
    subst c3
    have H1 : (some ((⟨#[]⟩ : ByteArray), false)) = some (r1, r2) := by rw [if_neg (show ¬ (false = true) by decide)] at H; exact H
    clear H
    have H := H1
    clear H1
    simp only [Option.some.injEq, Prod.mk.injEq] at H
    obtain ⟨rfl, rfl⟩ := H
    go_enter Try.func28, Try.ntmps28
    go_wp2_with (first | ((with_reducible refine gate_callee (f := 16) rfl ?_); refine goesL_ (some 5) rfl rfl Try.func16 (by kernel_rfl) rfl #[.string a0] rfl (by (try simp only [List.map_toArray, List.map_cons, List.map_nil]); first | done | rfl | (simp only [List.length_drop, List.length_take]; rfl)) ?_; (with_reducible refine (impl_IsTicket.calls k a0 false _ A2.out).mono ?_); rintro e w' ⟨rfl, ⟨nd, rfl⟩⟩; refine ⟨_, rfl, ?_⟩))
    go_ret2
    exact ⟨by first | rfl | (simp [errW_none, errW_some] <;> rfl) | (simp [*, errW_none, errW_some] <;> rfl), by repeat (first | (with_reducible first | exact HB.out | apply below_alloc | apply pw_below_drewN | apply below_drew1) | exact HB.out)⟩

/-! ### laws_FnExactTurnTicket: function 10 -/
def laws_FnExactTurnTicket.f (k : Nat) (a0 : ByteArray) : Option (Bool) := if (a0.size : Int) > 1048576 then (some true) else ((spec_TurnTicket.f k a0).bind fun bt112 => ((impl_TurnTicket.f k a0).bind fun bt114 => (if bt114.1.toList = bt112.1.toList then (if (bt114.2 != bt112.2) = true then (some false) else (some true)) else (some false))))
theorem laws_FnExactTurnTicket.mono : ∀ a0 k, LeO (laws_FnExactTurnTicket.f k a0) (laws_FnExactTurnTicket.f (k + 1) a0) := by
  intro a0 k
  unfold laws_FnExactTurnTicket.f
  repeat' first
      | (with_reducible exact impl_TurnTicket.mono _ _)
      | (with_reducible exact spec_TurnTicket.mono _ _)
      | (with_reducible exact LeO.refl _)
      | (with_reducible exact LeO.none _)
      | (with_reducible refine LeO.ite ?_ ?_)
      | (with_reducible refine LeO.bind ?_ (fun _ => ?_))
      | exact impl_TurnTicket.mono _ _
      | exact spec_TurnTicket.mono _ _
      | exact LeO.none _
      | refine LeO.ite ?_ ?_
      | refine LeO.bind ?_ (fun _ => ?_)
set_option maxHeartbeats 8000000 in
set_option maxRecDepth 100000 in
theorem laws_FnExactTurnTicket.calls (k : Nat) (a0 : ByteArray) (r : Bool) (w : World) (h : laws_FnExactTurnTicket.f k a0 = some r) :
    Calls Try.prog 10 #[.string a0] w fun e w' => e = .returned (.bool r) ∧ Below w.heap.size w w' := by
  have HB := Aside0.mk (Below.refl w.heap.size w)
  have H : (if (a0.size : Int) > 1048576 then (some true) else ((spec_TurnTicket.f k a0).bind fun bt112 => ((impl_TurnTicket.f k a0).bind fun bt114 => (if bt114.1.toList = bt112.1.toList then (if (bt114.2 != bt112.2) = true then (some false) else (some true)) else (some false))))) = some r := h
  clear h
  by_cases c2 : (a0.size : Int) > 1048576
  · rw [if_pos c2] at H
    have c2b0 : decide (1048576 < (a0.size : Int)) = true := decide_eq_true c2
    have c2b1 : decide (1048576 < a0.size) = true := decide_eq_true (by omega)
    clear c2
    obtain rfl := Option.some.inj H
    go_enter Try.func10, Try.ntmps10
    go_wp2
    go_ret
    exact ⟨by first | rfl | (simp [errW_none, errW_some] <;> rfl) | (simp [*, errW_none, errW_some] <;> rfl), by repeat (first | (with_reducible first | exact HB.out | apply below_alloc | apply pw_below_drewN | apply below_drew1) | exact HB.out)⟩
  · rw [if_neg c2] at H
    have c2b0 : decide (1048576 < (a0.size : Int)) = false := decide_eq_false c2
    have c2b1 : decide (1048576 < a0.size) = false := decide_eq_false (by omega)
    clear c2
    replace H := Option.bind_eq_some_iff.mp H
    obtain ⟨⟨t112, t113⟩, A30, H⟩ := H
    replace H : ((impl_TurnTicket.f k a0).bind fun bt114 => (if bt114.1.toList = t112.toList then (if (bt114.2 != t113) = true then (some false) else (some true)) else (some false))) = some r := H
    have A3 := Aside0.mk A30
    clear A30
    replace H := Option.bind_eq_some_iff.mp H
    obtain ⟨⟨t114, t115⟩, A40, H⟩ := H
    replace H : (if t114.toList = t112.toList then (if (t115 != t113) = true then (some false) else (some true)) else (some false)) = some r := H
    have A4 := Aside0.mk A40
    clear A40
    by_cases c5 : t114.toList = t112.toList
    · rw [if_pos c5] at H
      have c5b0 : (t114.toList == t112.toList) = true := beq_iff_eq.mpr c5
      have c5b1 : (t114.toList != t112.toList) = false := bne_eq_false_iff_eq.mpr c5
      clear c5
      by_cases c6 : (t115 != t113) = true
      · rw [if_pos c6] at H
        have c6b0 : (t115 != t113) = true := c6
        (try (have c6b1 : decide (t115 = t113) = false := by simpa using c6))
        (try (have c6b2 : (t115 == t113) = false := by simpa using c6))
        (try (have c6b3 : ¬ (t115 = t113) := by simpa using c6))
        clear c6
        obtain rfl := Option.some.inj H
        go_enter Try.func10, Try.ntmps10
        go_wp2_with (first | ((with_reducible refine gate_callee (f := 27) rfl ?_); refine goesL_ (some 12) rfl rfl Try.func27 (by kernel_rfl) rfl #[.string a0] rfl (by (try simp only [List.map_toArray, List.map_cons, List.map_nil]); first | done | rfl | (simp only [List.length_drop, List.length_take]; rfl)) ?_; (with_reducible refine (spec_TurnTicket.calls k a0 t112 t113 _ A3.out).mono ?_); rintro e w' ⟨rfl, ⟨nd, rfl⟩⟩; refine ⟨_, rfl, ?_⟩) | ((with_reducible refine gate_callee (f := 28) rfl ?_); refine goesL_ (some 17) rfl rfl Try.func28 (by kernel_rfl) rfl #[.string a0] rfl (by (try simp only [List.map_toArray, List.map_cons, List.map_nil]); first | done | rfl | (simp only [List.length_drop, List.length_take]; rfl)) ?_; (with_reducible refine (impl_TurnTicket.calls k a0 t114 t115 _ A4.out).mono ?_); rintro e w7 ⟨rfl, hb⟩; refine ⟨_, rfl, ?_⟩; have n0_ := Aside0.mk (below_step (by repeat (first | (with_reducible first | exact HB.out | apply below_alloc | apply pw_below_drewN | apply below_drew1) | exact HB.out)) hb); clear HB; have HB := n0_; clear n0_; (try clear hb); (try clear hb2); (try clear hk); (try clear hi)))
        go_ret
        exact ⟨by first | rfl | (simp [errW_none, errW_some] <;> rfl) | (simp [*, errW_none, errW_some] <;> rfl), by repeat (first | (with_reducible first | exact HB.out | apply below_alloc | apply pw_below_drewN | apply below_drew1) | exact HB.out)⟩
      · rw [if_neg c6] at H
        have c6b0 : (t115 != t113) = false := by simpa using c6
        (try (have c6b1 : decide (t115 = t113) = true := by simpa using c6))
        (try (have c6b2 : (t115 == t113) = true := by simpa using c6))
        clear c6
        obtain rfl := Option.some.inj H
        go_enter Try.func10, Try.ntmps10
        go_wp2_with (first | ((with_reducible refine gate_callee (f := 27) rfl ?_); refine goesL_ (some 12) rfl rfl Try.func27 (by kernel_rfl) rfl #[.string a0] rfl (by (try simp only [List.map_toArray, List.map_cons, List.map_nil]); first | done | rfl | (simp only [List.length_drop, List.length_take]; rfl)) ?_; (with_reducible refine (spec_TurnTicket.calls k a0 t112 t113 _ A3.out).mono ?_); rintro e w' ⟨rfl, ⟨nd, rfl⟩⟩; refine ⟨_, rfl, ?_⟩) | ((with_reducible refine gate_callee (f := 28) rfl ?_); refine goesL_ (some 17) rfl rfl Try.func28 (by kernel_rfl) rfl #[.string a0] rfl (by (try simp only [List.map_toArray, List.map_cons, List.map_nil]); first | done | rfl | (simp only [List.length_drop, List.length_take]; rfl)) ?_; (with_reducible refine (impl_TurnTicket.calls k a0 t114 t115 _ A4.out).mono ?_); rintro e w8 ⟨rfl, hb⟩; refine ⟨_, rfl, ?_⟩; have n0_ := Aside0.mk (below_step (by repeat (first | (with_reducible first | exact HB.out | apply below_alloc | apply pw_below_drewN | apply below_drew1) | exact HB.out)) hb); clear HB; have HB := n0_; clear n0_; (try clear hb); (try clear hb2); (try clear hk); (try clear hi)))
        go_ret
        exact ⟨by first | rfl | (simp [errW_none, errW_some] <;> rfl) | (simp [*, errW_none, errW_some] <;> rfl), by repeat (first | (with_reducible first | exact HB.out | apply below_alloc | apply pw_below_drewN | apply below_drew1) | exact HB.out)⟩
    · rw [if_neg c5] at H
      have c5b0 : (t114.toList == t112.toList) = false := beq_eq_false_iff_ne.mpr c5
      have c5b1 : (t114.toList != t112.toList) = true := bne_iff_ne.mpr c5
      obtain rfl := Option.some.inj H
      go_enter Try.func10, Try.ntmps10
      go_wp2_with (first | ((with_reducible refine gate_callee (f := 27) rfl ?_); refine goesL_ (some 12) rfl rfl Try.func27 (by kernel_rfl) rfl #[.string a0] rfl (by (try simp only [List.map_toArray, List.map_cons, List.map_nil]); first | done | rfl | (simp only [List.length_drop, List.length_take]; rfl)) ?_; (with_reducible refine (spec_TurnTicket.calls k a0 t112 t113 _ A3.out).mono ?_); rintro e w' ⟨rfl, ⟨nd, rfl⟩⟩; refine ⟨_, rfl, ?_⟩) | ((with_reducible refine gate_callee (f := 28) rfl ?_); refine goesL_ (some 17) rfl rfl Try.func28 (by kernel_rfl) rfl #[.string a0] rfl (by (try simp only [List.map_toArray, List.map_cons, List.map_nil]); first | done | rfl | (simp only [List.length_drop, List.length_take]; rfl)) ?_; (with_reducible refine (impl_TurnTicket.calls k a0 t114 t115 _ A4.out).mono ?_); rintro e w9 ⟨rfl, hb⟩; refine ⟨_, rfl, ?_⟩; have n0_ := Aside0.mk (below_step (by repeat (first | (with_reducible first | exact HB.out | apply below_alloc | apply pw_below_drewN | apply below_drew1) | exact HB.out)) hb); clear HB; have HB := n0_; clear n0_; (try clear hb); (try clear hb2); (try clear hk); (try clear hi)))
      go_ret
      exact ⟨by first | rfl | (simp [errW_none, errW_some] <;> rfl) | (simp [*, errW_none, errW_some] <;> rfl), by repeat (first | (with_reducible first | exact HB.out | apply below_alloc | apply pw_below_drewN | apply below_drew1) | exact HB.out)⟩

/-- THE ONE PURE STATEMENT of laws_FnExactTurnTicket: yours. -/
def laws_FnExactTurnTicket.Pure : Prop := ∀ (a0 : ByteArray), a0.size ≤ 140737488351232 → ∃ k, laws_FnExactTurnTicket.f k a0 = some true
theorem laws_FnExactTurnTicket.walk (P : laws_FnExactTurnTicket.Pure) (a0 : ByteArray) (w : World) (w0 : a0.size ≤ 140737488351232) :
    Calls Try.prog 10 #[.string a0] w fun e w' => e = .returned (.bool true) ∧ Below w.heap.size w w' := by
  obtain ⟨k, h⟩ := P a0 w0
  refine (laws_FnExactTurnTicket.calls k a0 true w h).mono ?_
  rintro e w' ⟨rfl, hd⟩
  exact ⟨rfl, hd⟩

end Go.Proofs.Ythpmbefhnhojbaa.PFnExactTurnTicket
