-- Laid by a program of this session (wip/myprint.py) out of the translation; some contracts in it are the session's own.
import Derived.Test.YtalcjjiahocpmaaPFnExactTurnSignsx0
import Derived.Test.YtalcjjiahocpmaaPFnExactTurnSignsx1
namespace Go.Proofs.Ytalcjjiahocpmaa.PFnExactTurnSigns
open Go.RowKit Go.Proofs.YtalcjjiahocpmaaW.PrintWords Go.Proofs.YtalcjjiahocpmaaW.PrintLast Go.Proofs.YtalcjjiahocpmaaW.PrintMore
attribute [local go_sem] max2_int min2_int max_two min_two max_three min_three max_four min_four   -- for this text's walks alone
set_option linter.unusedVariables false
set_option linter.unusedSimpArgs false

/-! ### impl_areSome: function 12 -/
def impl_areSome.f (k : Nat) (a0 : ByteArray) : Option (Bool) := (impl_areDigits.f k a0 1 7).bind fun t109 => (some t109)
theorem impl_areSome.mono : ∀ a0 k, LeO (impl_areSome.f k a0) (impl_areSome.f (k + 1) a0) := by
  intro a0 k
  unfold impl_areSome.f
  repeat' first
      | (with_reducible exact impl_areDigits.mono _ _ _ _)
      | (with_reducible exact LeO.refl _)
      | (with_reducible exact LeO.none _)
      | (with_reducible refine LeO.ite ?_ ?_)
      | (with_reducible refine LeO.bind ?_ (fun _ => ?_))
      | exact impl_areDigits.mono _ _ _ _
      | exact LeO.none _
      | refine LeO.ite ?_ ?_
      | refine LeO.bind ?_ (fun _ => ?_)
set_option maxHeartbeats 8000000 in
set_option maxRecDepth 100000 in
theorem impl_areSome.calls (k : Nat) (a0 : ByteArray) (r : Bool) (w : World) (h : impl_areSome.f k a0 = some r) :
    Calls Try.prog 12 #[.string a0] w fun e w' => e = .returned (.bool r) ∧ Drawn0 w w' := by
  have H : ((impl_areDigits.f k a0 1 7).bind fun t109 => (some t109)) = some r := h
  clear h
  replace H := Option.bind_eq_some_iff.mp H
  obtain ⟨t109, A20, H⟩ := H
  replace H : (some t109) = some r := H
  have A2 := Aside0.mk A20
  clear A20
  obtain rfl := Option.some.inj H
  go_enter Try.func12, Try.ntmps12
  go_wp2_with (first | ((with_reducible refine gate_callee (f := 18) rfl ?_); refine goesL_ (some 4) rfl rfl Try.func18 (by kernel_rfl) rfl #[.string a0, .int .i64 1, .int .i64 7] rfl (by (try simp only [List.map_toArray, List.map_cons, List.map_nil]); first | done | rfl | (simp only [List.length_drop, List.length_take]; rfl)) ?_; (with_reducible refine (impl_areDigits.calls k a0 1 7 t109 _ A2.out).mono ?_); rintro e w' ⟨rfl, ⟨nd, rfl⟩⟩; refine ⟨_, rfl, ?_⟩))
  go_ret
  exact ⟨by first | rfl | (simp; done) | (simp [*]; done), by repeat (first | exact Drawn0.refl _ | apply Drawn0.step)⟩

-- NOT PRINTED: function 25 (slices_IndexFunc_byte_byte)

-- NOT PRINTED: function 19 (slices_DeleteFunc_byte_byte)

/-! ### impl_plainDigits: function 13 -/
-- --making
-- included rowkit
/-- Block B's first n cells are the bytes xs, and none of them is frozen. -/
def RowB (W : World) (B n : Nat) (xs : List Int) : Prop :=
  B < W.heap.size ∧ xs.length = n ∧ (∀ j : Nat, j < n → W.cell? ⟨B, j, none⟩ = some (.int .u8 (rd xs j))) ∧ (∀ j : Nat, j < n → W.frozen? ⟨B, j, none⟩ = false)
theorem rowB_made (w : World) (s : ByteArray) (cap : Nat) (e : TypeId) :
    RowB (w.alloc (.cells (bytesRow s cap) e ((bytesRow s cap).size, (bytesRow s cap).size + 1))) w.heap.size s.size (bytesOf s) := by
  have hs : s.size ≤ (bytesRow s cap).size := by
    have h1 : s.data.size = s.size := rfl
    simp [bytesRow] <;> omega
  refine ⟨by simp, bytesOf_length s, fun j hj => ?_, fun j hj => ?_⟩
  · rw [World.cell?_alloc_mark]
    have h0 : j < s.data.size := hj
    have h1 : j < (s.data.map (fun b => Value.int .u8 b.toNat)).size := by simpa using h0
    unfold bytesRow
    rw [Array.getElem?_append_left h1, Array.getElem?_eq_getElem h1]
    rw [rd_bytesOf]
    have hb : bt s (j : Int) = (s.data[j].toNat : Int) := by
      unfold bt
      have h2 : (j : Int).toNat < s.size := by simpa using hj
      rw [dif_pos h2]
      rfl
    rw [hb]
    simp
  · rw [World.frozen?_alloc_mark]
    simp; omega
theorem rowB_set {W : World} {B n : Nat} {xs : List Int} (h : RowB W B n xs) (i : Nat) (hi : i < n) (v : Int) :
    RowB (W.setCell ⟨B, i, none⟩ (.int .u8 v)) B n (xs.set i v) := by
  obtain ⟨h0, h1, h2, h3⟩ := h
  refine ⟨by simpa [World.setCell] using h0, by simpa using h1, fun j hj => ?_, fun j hj => ?_⟩
  · by_cases e : j = i
    · subst e
      rw [World.cell?_setCell_same (h := h2 j hj)]
      have : j < xs.length := by omega
      simp [rd, this]
    · rw [World.cell?_setCell_other (w := W) (a := ⟨B, i, none⟩) (b := ⟨B, j, none⟩) (h := fun c => e (congrArg Addr.off c).symm), h2 j hj]
      have e' : ¬ i = j := fun c => e c.symm
      simp [rd, List.getD_eq_getElem?_getD, List.getElem?_set, e']
  · rw [World.frozen?_setCell]; exact h3 j hj
theorem rowB_block {W W' : World} {B n : Nat} {xs : List Int} (h : RowB W B n xs) (hb : W'.heap[B]? = W.heap[B]?) : RowB W' B n xs := by
  obtain ⟨h0, h1, h2, h3⟩ := h
  have hs : B < W'.heap.size := by
    rcases Nat.lt_or_ge B W'.heap.size with h | h
    · exact h
    · rw [Array.getElem?_eq_none h] at hb
      rw [Array.getElem?_eq_getElem h0] at hb
      cases hb
  exact ⟨hs, h1, fun j hj => (World.cell?_of_block (w := W) hb).trans (h2 j hj), fun j hj => (World.frozen?_of_block (w := W) hb).trans (h3 j hj)⟩
theorem rowB_below {W W' : World} {B n : Nat} {xs : List Int} (h : RowB W B n xs) (hb : Below W.heap.size W W') : RowB W' B n xs := rowB_block h (hb.block B h.1)
theorem rowB_drewN {W : World} {B n : Nat} {xs : List Int} (h : RowB W B n xs) (m : Nat) : RowB (W.drewN m) B n xs := rowB_block h rfl
/-- 'string(b)' of such a row. -/
theorem rowB_string {P : Program} {W : World} {B n cap : Nat} {xs : List Int} {src dst e : TypeId} (h : RowB W B n xs) (hx : ∀ c ∈ xs, 0 ≤ c ∧ c < 256)
    (hs : P.underlying src = some (.slice e)) (he : P.underlying e = some (.int .u8)) (hd : P.underlying dst = some .string) :
    (convert src dst (.slice (some ⟨B, 0, none⟩) n cap)).run P W = .ok (.string (strOfNums xs)) W := by
  obtain ⟨h0, h1, h2, h3⟩ := h
  have := run_convert_bytes_back (P := P) W src dst e ⟨B, 0, none⟩ cap (xs.map fun c => UInt8.ofNat c.toNat) hs he hd (fun j hj => by
    have hj' : j < n := by simpa [h1] using hj
    have hj2 : j < xs.length := by omega
    have hm := hx xs[j] (List.getElem_mem hj2)
    rw [Addr.add_lit, Nat.zero_add, h2 j hj']
    simp [rd, hj2]
    omega)
  rw [show (xs.map fun c => UInt8.ofNat c.toNat).length = n by simpa using h1] at this
  rw [this]
  simp [strOfNums]

def sgB (c : Int) : Bool := c == 43 || (c == 45 || c == 42)
theorem isSign_eq_ (c : Int) : impl_isSign.f c = some (sgB c) := by
  unfold impl_isSign.f sgB
  by_cases h1 : c = 43
  · rw [if_pos h1]; simp [h1]
  · rw [if_neg h1]
    by_cases h2 : c = 45
    · rw [if_pos h2]; simp [h2]
    · have b1 : (c == 43) = false := beq_eq_false_iff_ne.2 h1
      have b2 : (c == 45) = false := beq_eq_false_iff_ne.2 h2
      rw [if_neg h2, b1, b2]
      rfl
def idxL (xs : List Int) : Nat → Nat → Int
  | 0, _ => -1
  | d + 1, i => if sgB (rd xs i) = true then (i : Int) else idxL xs d (i + 1)
def delL : Nat → Nat → Nat → List Int → Nat × List Int
  | 0, i, _, xs => (i, xs)
  | d + 1, i, j, xs => if sgB (rd xs j) = true then delL d i (j + 1) xs else delL d (i + 1) (j + 1) (xs.set i (rd xs j))
theorem idxL_range (xs : List Int) : ∀ (d i : Nat), idxL xs d i = -1 ∨ ∃ m : Nat, idxL xs d i = (m : Int) ∧ i ≤ m ∧ m < i + d
  | 0, _ => .inl rfl
  | d + 1, i => by
    unfold idxL
    by_cases c : sgB (rd xs i) = true
    · rw [if_pos c]; exact .inr ⟨i, rfl, Nat.le_refl _, by omega⟩
    · rw [if_neg c]
      rcases idxL_range xs d (i + 1) with h | ⟨m, h, h1, h2⟩
      · exact .inl h
      · exact .inr ⟨m, h, by omega, by omega⟩
def plainL (xs : List Int) : List Int := if idxL xs xs.length 0 = -1 then xs else (delL (xs.length - ((idxL xs xs.length 0).toNat + 1)) (idxL xs xs.length 0).toNat ((idxL xs xs.length 0).toNat + 1) xs).2.take (delL (xs.length - ((idxL xs xs.length 0).toNat + 1)) (idxL xs xs.length 0).toNat ((idxL xs xs.length 0).toNat + 1) xs).1
theorem rd_byte_ {xs : List Int} (h : ∀ c ∈ xs, 0 ≤ c ∧ c < 256) (i : Nat) (hi : i < xs.length) : 0 ≤ rd xs (i : Int) ∧ rd xs (i : Int) < 256 := h _ (by simp [rd, hi])
theorem rowB_drawn_ {w w' : World} {B n : Nat} {xs : List Int} (h : RowB w B n xs) (hd : Drawn0 w w') : RowB w' B n xs := by
  obtain ⟨⟨nd, rfl⟩⟩ := hd
  exact rowB_drewN h nd
theorem drawn_trans_ {a b c : World} (h : Drawn0 a b) (k : Drawn0 b c) : Drawn0 a c := by
  obtain ⟨⟨n, rfl⟩⟩ := k
  exact h.step n
theorem rowB_clear_ {w : World} {B n : Nat} {xs : List Int} (h : RowB w B n xs) (i : Nat) (hi : i ≤ n) (vs : List Value) : RowB (w.setCells B i vs) B i (xs.take i) := by
  obtain ⟨h0, h1, h2, h3⟩ := h
  refine ⟨?_, by simp; omega, fun j hj => ?_, fun j hj => ?_⟩
  · have hs : ∀ (l : List Value) (o : Nat) (w : World), (w.setCells B o l).heap.size = w.heap.size := by
      intro l
      induction l with
      | nil => intro o w; rfl
      | cons v l ih => intro o w; show ((w.setCell ⟨B, o, none⟩ v).setCells B (o + 1) l).heap.size = _; rw [ih]; simp [World.setCell]
    rw [hs]; exact h0
  · rw [World.cell?_setCells_out B vs i w ⟨B, j, none⟩ (fun _ _ => .inl hj), h2 j (by omega)]
    have hj2 : j < xs.length := by omega
    simp [rd, hj, hj2]
  · rw [World.frozen?_setCells]; exact h3 j (by omega)
theorem below_setCells_ {B B0 : Nat} {a : World} (hb : B0 ≤ B) : ∀ (l : List Value) (o : Nat) (w : World), Below B0 a w → Below B0 a (w.setCells B o l)
  | [], _, _, h => h
  | v :: l, o, w, h => below_setCells_ hb l (o + 1) (w.setCell ⟨B, o, none⟩ v) (h.setCell hb v)
set_option maxHeartbeats 8000000 in
set_option maxRecDepth 100000 in
theorem idx_calls (B n cap : Nat) (xs : List Int) (w : World) (hn2 : n ≤ 1048576) (hR : RowB w B n xs) (hx : ∀ c ∈ xs, 0 ≤ c ∧ c < 256) :
    Calls Try.prog 25 #[.slice (some ⟨B, 0, none⟩) n cap, .func (.func 11) #[] #[]] w fun e w' => e = .returned (.int .i64 (idxL xs n 0)) ∧ Drawn0 w w' := by
  have HR := Aside0.mk hR
  have HX := Aside0.mk hx
  clear hR hx
  go_enter Try.func25, Try.ntmps25
  go_wp2
  go_loopg [8] n (fun d v8 w' => ∃ (i : Nat), v8 = .int .i64 i ∧ Aside0 (i + d = n) ∧ Aside0 (idxL xs d i = idxL xs n 0) ∧ Aside0 (Drawn0 w w'))
  case atStart => exact ⟨0, rfl, ⟨by omega⟩, ⟨rfl⟩, ⟨Drawn0.refl _⟩⟩
  case round =>
    obtain ⟨i, rfl, HI, HE, HD⟩ := hrel
    have hi := HI.out
    cases gk with
    | zero =>
      have hlt : ¬ (i : Int) < (n : Int) := by omega
      clear hi
      go_wp2
      go_ret
      exact ⟨by rw [← HE.out]; rfl, HD.out⟩
    | succ d =>
      have hlt : i < n := by omega
      have HRW := Aside0.mk (rowB_drawn_ HR.out HD.out)
      have hcell := HRW.out.2.2.1 i hlt
      have hb := rd_byte_ HX.out i (by have := HR.out.2.1; omega)
      obtain ⟨c, hc⟩ : ∃ c, c = rd xs (i : Int) := ⟨_, rfl⟩
      rw [← hc] at hcell hb
      obtain ⟨hb0, hb1⟩ := hb
      have HC := Aside0.mk hc
      clear hc hi
      cases hsg : sgB c with
      | true =>
        have HS := Aside0.mk (show impl_isSign.f c = some true by rw [isSign_eq_, hsg])
        have HG := Aside0.mk hsg
        clear hsg
        go_wp2_with (go_at_call 11; refine (impl_isSign.calls c true _ HS.out).mono ?_; rintro e wB ⟨rfl, hd⟩; have HD2 := Aside0.mk (drawn_trans_ HD.out hd); clear hd)
        go_ret
        exact ⟨by rw [← HE.out]; simp only [idxL]; rw [← HC.out, if_pos HG.out]; rfl, HD2.out⟩
      | false =>
        have HS := Aside0.mk (show impl_isSign.f c = some false by rw [isSign_eq_, hsg])
        have HG := Aside0.mk hsg
        clear hsg
        go_wp2_with (go_at_call 11; refine (impl_isSign.calls c false _ HS.out).mono ?_; rintro e wB ⟨rfl, hd⟩; have HD2 := Aside0.mk (drawn_trans_ HD.out hd); clear hd)
        go_roundg d
        case measure => omega
        case rel => exact ⟨i + 1, by go_num, ⟨by have := HI.out; omega⟩, ⟨by have h_ := HE.out; simp only [idxL] at h_; rw [← HC.out, HG.out, if_neg (by simp)] at h_; exact h_⟩, HD2⟩
set_option maxHeartbeats 8000000 in
set_option maxRecDepth 100000 in
theorem del_calls (B n cap : Nat) (xs : List Int) (w : World) (hn1 : n ≤ cap) (hn2 : n ≤ 1048576) (hR : RowB w B n xs) (hx : ∀ c ∈ xs, 0 ≤ c ∧ c < 256) :
    Calls Try.prog 19 #[.slice (some ⟨B, 0, none⟩) n cap, .func (.func 11) #[] #[]] w fun e w' => e = .returned (.slice (some ⟨B, 0, none⟩) (plainL xs).length cap) ∧ RowB w' B (plainL xs).length (plainL xs) ∧ Below B w w' := by
  have hl := hR.2.1
  rcases idxL_range xs n 0 with hm | ⟨m, hm, _, hm2⟩
  · have hp : plainL xs = xs := by unfold plainL; rw [hl, hm, if_pos rfl]
    have HX := idx_calls B n cap xs w hn2 hR hx
    rw [hm] at HX
    rw [hp, hl]
    have HR := Aside0.mk hR
    clear hR hx hm hp hl
    go_enter Try.func19, Try.ntmps19
    go_wp2_with (go_at_call 25; refine HX.mono ?_; rintro e wB ⟨rfl, hd⟩; have HD := Aside0.mk hd; clear hd HX)
    go_ret
    exact ⟨rfl, rowB_drawn_ HR.out HD.out, HD.out.below.mono (Nat.le_of_lt HR.out.1)⟩
  · have hm3 : m < n := by omega
    have hp : plainL xs = (delL (n - (m + 1)) m (m + 1) xs).2.take (delL (n - (m + 1)) m (m + 1) xs).1 := by
      unfold plainL
      rw [hl, hm, if_neg (by omega), Int.toNat_natCast]
    have HX := idx_calls B n cap xs w hn2 hR hx
    rw [hm] at HX
    have HR := Aside0.mk hR
    have HP := Aside0.mk hp
    have HXS := Aside0.mk hx
    have hne : ((m : Int) == -1) = false := beq_eq_false_iff_ne.2 (by omega)
    have hne2 : ¬ (m : Int) = -1 := by omega
    clear hR hx hm hp hl
    go_enter Try.func19, Try.ntmps19
    go_wp2_with (go_at_call 25; refine HX.mono ?_; rintro e wB ⟨rfl, hd⟩; have HD := Aside0.mk hd; clear hd HX)
    clear hne hne2
    go_loopg [5, 6, 7] (n - (m + 1)) (fun d v5 v6 v7 w' => ∃ (i j : Nat) (ys : List Int), v5 = .int .i64 i ∧ v6 = .int .i64 j ∧ Aside0 (j + d = n ∧ i < j) ∧ Aside0 (delL d i j ys = delL (n - (m + 1)) m (m + 1) xs) ∧ Aside0 (RowB w' B n ys) ∧ Aside0 (∀ c ∈ ys, 0 ≤ c ∧ c < 256) ∧ Aside0 (Below B w w'))
    case atStart => exact ⟨m, m + 1, xs, rfl, by go_num, ⟨by omega, by omega⟩, ⟨rfl⟩, ⟨rowB_drawn_ HR.out HD.out⟩, HXS, ⟨HD.out.below.mono (Nat.le_of_lt HR.out.1)⟩⟩
    case round =>
      obtain ⟨i, j, ys, rfl, rfl, HI, HE, HRY, HY, HB⟩ := hrel
      have hij := HI.out.2
      have hjd := HI.out.1
      cases gk with
      | zero =>
        obtain rfl : j = n := by omega
        have hlt : ¬ (j : Int) < (j : Int) := by omega
        have hic : i < cap := by omega
        have hij2 : i ≤ j := by omega
        have hcl : ∀ ty, (Builtin.clear_ #[48] ty #[.slice (some ⟨B, 0 + i, none⟩) (j - i) (cap - i)]).run Try.prog wr = _ := fun ty =>
          Lib.run_clear_slice wr 48 5 ty (.int .u8 0) Try.underlying48 (fun w => by kernel_rfl) rfl rfl B (0 + i) _ _ (by omega) (fun t ht => by rw [Nat.zero_add, HRY.out.2.2.1 (i + t) (by omega)]; rfl) (fun t ht => by rw [Nat.zero_add]; exact HRY.out.2.2.2 (i + t) (by omega))
        rw [Nat.zero_add] at hcl
        clear hjd
        go_wp2
        go_ret
        have hpl : plainL xs = ys.take i := by rw [HP.out, ← HE.out]; rfl
        have hlen : (ys.take i).length = i := by rw [List.length_take, HRY.out.2.1]; omega
        rw [hpl, hlen]
        exact ⟨rfl, rowB_clear_ HRY.out i (by omega) _, below_setCells_ (Nat.le_refl _) _ _ _ HB.out⟩
      | succ d =>
        have hlt : j < n := by omega
        have hin : i < n := by omega
        have hcell := HRY.out.2.2.1 j hlt
        have hcelli := HRY.out.2.2.1 i hin
        have hfri := HRY.out.2.2.2 i hin
        have hb := rd_byte_ HY.out j (by have := HRY.out.2.1; omega)
        obtain ⟨c, hc⟩ : ∃ c, c = rd ys (j : Int) := ⟨_, rfl⟩
        obtain ⟨c2, hc2⟩ : ∃ c, c = rd ys (i : Int) := ⟨_, rfl⟩
        rw [← hc] at hcell hb
        rw [← hc2] at hcelli
        obtain ⟨hb0, hb1⟩ := hb
        have HC := Aside0.mk hc
        clear hc hc2 hjd
        cases hsg : sgB c with
        | true =>
          have HS := Aside0.mk (show impl_isSign.f c = some true by rw [isSign_eq_, hsg])
          have HG := Aside0.mk hsg
          clear hsg hcelli hfri
          go_wp2_with (go_at_call 11; refine (impl_isSign.calls c true _ HS.out).mono ?_; rintro e wC ⟨rfl, hd⟩; have HD2 := Aside0.mk (rowB_drawn_ HRY.out hd); have HB2 := Aside0.mk (HB.out.trans (hd.below.mono (Nat.le_of_lt HRY.out.1))); clear hd)
          go_roundg d
          case measure => omega
          case rel => exact ⟨i, j + 1, ys, rfl, by go_num, ⟨by have := HI.out; omega, by omega⟩, ⟨by have h_ := HE.out; simp only [delL] at h_; rw [← HC.out, if_pos HG.out] at h_; exact h_⟩, HD2, HY, HB2⟩
        | false =>
          have HS := Aside0.mk (show impl_isSign.f c = some false by rw [isSign_eq_, hsg])
          have HG := Aside0.mk hsg
          clear hsg hcelli hfri
          go_wp2_with (go_at_call 11; refine (impl_isSign.calls c false _ HS.out).mono ?_; rintro e wC ⟨rfl, hd⟩; have HD2 := Aside0.mk (rowB_drawn_ HRY.out hd); have HB2 := Aside0.mk (HB.out.trans (hd.below.mono (Nat.le_of_lt HRY.out.1))); clear hd; have hcelli := HD2.out.2.2.1 i hin; have hfri := HD2.out.2.2.2 i hin; have HST := Aside0.mk (rowB_set HD2.out i hin c))
          go_roundg d
          case measure => omega
          case rel => exact ⟨i + 1, j + 1, ys.set i c, by go_num, by go_num, ⟨by have := HI.out; omega, by omega⟩, ⟨by have h_ := HE.out; simp only [delL] at h_; rw [← HC.out, HG.out, if_neg (by simp)] at h_; exact h_⟩, HST, ⟨fun x hx => by
            rcases List.mem_or_eq_of_mem_set hx with hx | rfl
            · exact HY.out x hx
            · exact ⟨hb0, hb1⟩⟩, ⟨HB2.out.setCell (Nat.le_refl _) _⟩⟩
theorem plainL_byts (xs : List Int) (h : ∀ c ∈ xs, 0 ≤ c ∧ c < 256) : ∀ c ∈ plainL xs, 0 ≤ c ∧ c < 256 := by
  have key : ∀ (d i j : Nat) (ys : List Int), (∀ c ∈ ys, 0 ≤ c ∧ c < 256) → j + d ≤ ys.length → ∀ c ∈ (delL d i j ys).2, 0 ≤ c ∧ c < 256 := by
    intro d
    induction d with
    | zero => intro i j ys h _; exact h
    | succ d ih =>
      intro i j ys h hj
      unfold delL
      by_cases c : sgB (rd ys j) = true
      · rw [if_pos c]; exact ih _ _ _ h (by omega)
      · rw [if_neg c]
        refine ih _ _ _ (fun x hx => ?_) (by rw [List.length_set]; omega)
        rcases List.mem_or_eq_of_mem_set hx with hx | rfl
        · exact h x hx
        · exact rd_byte_ h j (by omega)
  unfold plainL
  by_cases c : idxL xs xs.length 0 = -1
  · rw [if_pos c]; exact h
  · rw [if_neg c]
    intro x hx
    rcases idxL_range xs xs.length 0 with hm | ⟨m, hm, _, hm2⟩
    · exact absurd hm c
    · refine key _ _ _ xs h ?_ x (List.mem_of_mem_take hx)
      rw [hm, Int.toNat_natCast]; omega
def impl_plainDigits.f (a0 : ByteArray) : Option ByteArray := if a0.size ≤ 1048576 then some (strOfNums (plainL (bytesOf a0))) else none
set_option maxHeartbeats 8000000 in
set_option maxRecDepth 100000 in
theorem impl_plainDigits.calls (a0 : ByteArray) (r : ByteArray) (w : World) (h : impl_plainDigits.f a0 = some r) :
    Calls Try.prog 13 #[.string a0] w fun e w' => e = .returned (.string r) ∧ Below w.heap.size w w' := by
  unfold impl_plainDigits.f at h
  by_cases hz : a0.size ≤ 1048576
  case neg => rw [if_neg hz] at h; cases h
  rw [if_pos hz] at h
  have hE1 := Option.some.inj h
  have HE1 := Aside0.mk hE1
  clear hE1 h
  have hxs : ∀ c ∈ bytesOf a0, 0 ≤ c ∧ c < 256 := fun c hc => by simp only [bytesOf, List.mem_map] at hc; obtain ⟨b, _, rfl⟩ := hc; have := b.toNat_lt; omega
  have HXS := Aside0.mk hxs
  clear hxs
  have hcv := fun W => run_bytes_of_string (P := Try.prog) W 9 48 5 a0 Try.underlying9 Try.underlying48 Try.underlying5
  have HR := Aside0.mk (rowB_made w a0 (grownCap w a0.size 0 5) 5)
  have HCAP := Aside0.mk (show a0.size ≤ grownCap w a0.size 0 5 from grownCap_ge _ _ _ _)
  go_enter Try.func13, Try.ntmps13
  go_wp2_with fail
  refine (del_calls w.heap.size a0.size (grownCap w a0.size 0 5) (bytesOf a0) _ HCAP.out hz (by exact rowB_block HR.out rfl) HXS.out).mono ?_
  rintro e w' ⟨rfl, hrow, hbel⟩
  have hcv2 := rowB_string (P := Try.prog) (cap := grownCap w a0.size 0 5) hrow (plainL_byts _ HXS.out) Try.underlying48 Try.underlying5 Try.underlying9
  have HBB := Aside0.mk hbel
  clear hrow hbel
  go_wp2
  go_ret
  exact ⟨by rw [← HE1.out]; rfl, (((Below.refl _ _).alloc (Nat.le_refl _) _).drew).trans HBB.out⟩

/-! ### impl_IsSigned: function 7 -/
def impl_IsSigned.l0 : Nat → ByteArray → Int → Int → Option (Bool)
  | 0, _, _, _ => none
  | k + 1, x0, x5, x6 => if x6 < x5 then (if 0 ≤ x6 then (if x6 < (x0.size : Int) then ((impl_isSign.f (bt x0 x6)).bind fun t112 => (if t112 = true then (if x6 = 0 then (some false) else (if x6 = (wrap64 ((x0.size : Int) - 1)) then (some false) else (if 0 ≤ (wrap64 (x6 - 1)) then (if (wrap64 (x6 - 1)) < (x0.size : Int) then ((impl_isSign.f (bt x0 (wrap64 (x6 - 1)))).bind fun t113 => (if t113 = true then (some false) else (impl_IsSigned.l0 k x0 x5 (wrap64 (x6 + 1))))) else (none)) else (none)))) else (impl_IsSigned.l0 k x0 x5 (wrap64 (x6 + 1))))) else (none)) else (none)) else ((impl_plainDigits.f x0).bind fun t110 => ((impl_areSome.f k t110).bind fun t111 => (some t111)))
def impl_IsSigned.f (k : Nat) (a0 : ByteArray) : Option (Bool) := impl_IsSigned.l0 k a0 (a0.size : Int) 0
theorem impl_IsSigned.mono_l : ∀ k, (∀ y0 y1 y2, LeO (impl_IsSigned.l0 k y0 y1 y2) (impl_IsSigned.l0 (k + 1) y0 y1 y2))
  | 0 => fun _ _ _ r h => by simp [impl_IsSigned.l0] at h
  | k + 1 => by
    have ih0 := impl_IsSigned.mono_l k
    · intro y0 y1 y2
      unfold impl_IsSigned.l0
      repeat' first
      | (with_reducible exact ih0 _ _ _)
      | (with_reducible exact impl_areSome.mono _ _)
      | (with_reducible exact LeO.refl _)
      | (with_reducible exact LeO.none _)
      | (with_reducible refine LeO.ite ?_ ?_)
      | (with_reducible refine LeO.bind ?_ (fun _ => ?_))
      | exact ih0 _ _ _
      | exact impl_areSome.mono _ _
      | exact LeO.none _
      | refine LeO.ite ?_ ?_
      | refine LeO.bind ?_ (fun _ => ?_)
theorem impl_IsSigned.mono : ∀ a0 k, LeO (impl_IsSigned.f k a0) (impl_IsSigned.f (k + 1) a0) := by
  intro a0 k
  have ih0 := impl_IsSigned.mono_l k
  unfold impl_IsSigned.f
  repeat' first
      | (with_reducible exact ih0 _ _ _)
      | (with_reducible exact impl_areSome.mono _ _)
      | (with_reducible exact LeO.refl _)
      | (with_reducible exact LeO.none _)
      | (with_reducible refine LeO.ite ?_ ?_)
      | (with_reducible refine LeO.bind ?_ (fun _ => ?_))
      | exact ih0 _ _ _
      | exact impl_areSome.mono _ _
      | exact LeO.none _
      | refine LeO.ite ?_ ?_
      | refine LeO.bind ?_ (fun _ => ?_)
set_option maxHeartbeats 8000000 in
set_option maxRecDepth 100000 in
theorem impl_IsSigned.calls (k : Nat) (a0 : ByteArray) (r : Bool) (w : World) (h : impl_IsSigned.f k a0 = some r) :
    Calls Try.prog 7 #[.string a0] w fun e w' => e = .returned (.bool r) ∧ Below w.heap.size w w' := by
  have HB := Aside0.mk (Below.refl w.heap.size w)
  have H : (impl_IsSigned.l0 k a0 (a0.size : Int) 0) = some r := h
  clear h
  have H' := Aside0.mk H
  clear H
  go_enter Try.func7, Try.ntmps7
  go_wp2
  go_loopg [6] k (fun kq v6 w' => ∃ (x6_1 : Int), v6 = .int .i64 x6_1 ∧ Aside0 (impl_IsSigned.l0 kq a0 (a0.size : Int) x6_1 = some r) ∧ Aside0 (kq ≤ k) ∧ Aside0 (Below w.heap.size w w'))
  case atStart => exact ⟨(0), (by first | rfl | (simp; done) | (simp [*]; done)), H', ⟨Nat.le_refl _⟩, ⟨by repeat (first | (with_reducible first | exact HB.out | apply below_alloc | apply pw_below_drewN | apply below_drew1) | exact HB.out)⟩⟩
  case round =>
    clear H'
    obtain ⟨x6_1, rfl, HA, HK1, HB⟩ := hrel
    cases gk with
    | zero => exact absurd HA.out (by simp [impl_IsSigned.l0])
    | succ k1 =>
      have H := HA.out
      clear HA
      simp only [impl_IsSigned.l0] at H
      by_cases c2 : x6_1 < (a0.size : Int)
      · rw [if_pos c2] at H
        have c2b0 : decide (x6_1 < (a0.size : Int)) = true := decide_eq_true c2
        clear c2
        by_cases c3 : 0 ≤ x6_1
        · rw [if_pos c3] at H
          have c3b0 : decide (0 ≤ x6_1) = true := decide_eq_true c3
          clear c3
          by_cases c4 : x6_1 < (a0.size : Int)
          · rw [if_pos c4] at H
            have c4b0 : decide (x6_1 < (a0.size : Int)) = true := decide_eq_true c4
            clear c4
            replace H := Option.bind_eq_some_iff.mp H
            obtain ⟨t112, A60, H⟩ := H
            replace H : (if t112 = true then (if x6_1 = 0 then (some false) else (if x6_1 = (wrap64 ((a0.size : Int) - 1)) then (some false) else (if 0 ≤ (wrap64 (x6_1 - 1)) then (if (wrap64 (x6_1 - 1)) < (a0.size : Int) then ((impl_isSign.f (bt a0 (wrap64 (x6_1 - 1)))).bind fun t113 => (if t113 = true then (some false) else (impl_IsSigned.l0 k1 a0 (a0.size : Int) (wrap64 (x6_1 + 1))))) else (none)) else (none)))) else (impl_IsSigned.l0 k1 a0 (a0.size : Int) (wrap64 (x6_1 + 1)))) = some r := H
            have A6 := Aside0.mk A60
            clear A60
            by_cases c7 : t112 = true
            · subst c7
              have H1 : (if x6_1 = 0 then (some false) else (if x6_1 = (wrap64 ((a0.size : Int) - 1)) then (some false) else (if 0 ≤ (wrap64 (x6_1 - 1)) then (if (wrap64 (x6_1 - 1)) < (a0.size : Int) then ((impl_isSign.f (bt a0 (wrap64 (x6_1 - 1)))).bind fun t113 => (if t113 = true then (some false) else (impl_IsSigned.l0 k1 a0 (a0.size : Int) (wrap64 (x6_1 + 1))))) else (none)) else (none)))) = some r := by rw [if_pos rfl] at H; exact H
              clear H
              have H := H1
              clear H1
              by_cases c8 : x6_1 = 0
              · rw [if_pos c8] at H
                have c8b0 : (x6_1 == 0) = true := beq_iff_eq.mpr c8
                have c8b1 : (x6_1 != 0) = false := bne_eq_false_iff_eq.mpr c8
                clear c8
                obtain rfl := Option.some.inj H
                have p5 : 0 ≤ (x6_1 : Int) := of_decide_eq_true (by first | (with_reducible assumption) | assumption)
                have q5 : x6_1 < (a0.size : Int) := of_decide_eq_true (by first | (with_reducible assumption) | assumption)
                have hx5 := bt_at a0 x6_1
                replace p5 := eq_true p5
                replace q5 := eq_true q5
                go_wp2_with (first | ((with_reducible refine gate_callee (f := 11) rfl ?_); refine goesL_ (some 12) rfl rfl Try.func11 (by kernel_rfl) rfl #[.int .u8 (bt a0 x6_1)] rfl (by (try simp only [List.map_toArray, List.map_cons, List.map_nil]); first | done | rfl | (simp only [List.length_drop, List.length_take]; rfl)) ?_; (with_reducible refine (impl_isSign.calls (bt a0 x6_1) true _ A6.out).mono ?_); rintro e w' ⟨rfl, ⟨nd, rfl⟩⟩; refine ⟨_, rfl, ?_⟩))
                go_ret
                exact ⟨by first | rfl | (simp [errW_none, errW_some] <;> rfl) | (simp [*, errW_none, errW_some] <;> rfl), by repeat (first | (with_reducible first | exact HB.out | apply below_alloc | apply pw_below_drewN | apply below_drew1) | exact HB.out)⟩
              · rw [if_neg c8] at H
                have c8b0 : (x6_1 == 0) = false := beq_eq_false_iff_ne.mpr c8
                have c8b1 : (x6_1 != 0) = true := bne_iff_ne.mpr c8
                by_cases c9 : x6_1 = (wrap64 ((a0.size : Int) - 1))
                · rw [if_pos c9] at H
                  have c9b0 : (x6_1 == (wrap64 ((a0.size : Int) - 1))) = true := beq_iff_eq.mpr c9
                  have c9b1 : (x6_1 != (wrap64 ((a0.size : Int) - 1))) = false := bne_eq_false_iff_eq.mpr c9
                  clear c9
                  obtain rfl := Option.some.inj H
                  have p5 : 0 ≤ (x6_1 : Int) := of_decide_eq_true (by first | (with_reducible assumption) | assumption)
                  have q5 : x6_1 < (a0.size : Int) := of_decide_eq_true (by first | (with_reducible assumption) | assumption)
                  have hx5 := bt_at a0 x6_1
                  replace p5 := eq_true p5
                  replace q5 := eq_true q5
                  go_wp2_with (first | ((with_reducible refine gate_callee (f := 11) rfl ?_); refine goesL_ (some 12) rfl rfl Try.func11 (by kernel_rfl) rfl #[.int .u8 (bt a0 x6_1)] rfl (by (try simp only [List.map_toArray, List.map_cons, List.map_nil]); first | done | rfl | (simp only [List.length_drop, List.length_take]; rfl)) ?_; (with_reducible refine (impl_isSign.calls (bt a0 x6_1) true _ A6.out).mono ?_); rintro e w' ⟨rfl, ⟨nd, rfl⟩⟩; refine ⟨_, rfl, ?_⟩))
                  go_ret
                  exact ⟨by first | rfl | (simp [errW_none, errW_some] <;> rfl) | (simp [*, errW_none, errW_some] <;> rfl), by repeat (first | (with_reducible first | exact HB.out | apply below_alloc | apply pw_below_drewN | apply below_drew1) | exact HB.out)⟩
                · rw [if_neg c9] at H
                  have c9b0 : (x6_1 == (wrap64 ((a0.size : Int) - 1))) = false := beq_eq_false_iff_ne.mpr c9
                  have c9b1 : (x6_1 != (wrap64 ((a0.size : Int) - 1))) = true := bne_iff_ne.mpr c9
                  obtain ⟨ji10, hji10⟩ : ∃ j_ : Int, (wrap64 (x6_1 - 1)) = j_ := ⟨_, rfl⟩
                  replace H : (if 0 ≤ (ji10) then (if (ji10) < (a0.size : Int) then ((impl_isSign.f (bt a0 (ji10))).bind fun t113 => (if t113 = true then (some false) else (impl_IsSigned.l0 k1 a0 (a0.size : Int) (wrap64 (x6_1 + 1))))) else (none)) else (none)) = some r := by first | (rw [hji10] at H; exact H) | (simp only [hji10] at H ⊢; exact H)
                  (try rw [hji10] at A6)
                  have hji10w : (IntKind.i64.wrap (x6_1 - 1)) = ji10 := (i64_w _).trans hji10
                  by_cases c11 : 0 ≤ (ji10)
                  · rw [if_pos c11] at H
                    have c11b0 : decide (0 ≤ (ji10)) = true := decide_eq_true c11
                    clear c11
                    by_cases c12 : (ji10) < (a0.size : Int)
                    · rw [if_pos c12] at H
                      have c12b0 : decide ((ji10) < (a0.size : Int)) = true := decide_eq_true c12
                      clear c12
                      replace H := Option.bind_eq_some_iff.mp H
                      obtain ⟨t113, A140, H⟩ := H
                      replace H : (if t113 = true then (some false) else (impl_IsSigned.l0 k1 a0 (a0.size : Int) (wrap64 (x6_1 + 1)))) = some r := H
                      have A14 := Aside0.mk A140
                      clear A140
                      by_cases c15 : t113 = true
                      · subst c15
                        have H1 : (some false) = some r := by rw [if_pos rfl] at H; exact H
                        clear H
                        have H := H1
                        clear H1
                        obtain rfl := Option.some.inj H
                        have p5 : 0 ≤ (x6_1 : Int) := of_decide_eq_true (by first | (with_reducible assumption) | assumption)
                        have q5 : x6_1 < (a0.size : Int) := of_decide_eq_true (by first | (with_reducible assumption) | assumption)
                        have hx5 := bt_at a0 x6_1
                        replace p5 := eq_true p5
                        replace q5 := eq_true q5
                        go_wp2_with (first | ((with_reducible refine gate_callee (f := 11) rfl ?_); refine goesL_ (some 12) rfl rfl Try.func11 (by kernel_rfl) rfl #[.int .u8 (bt a0 x6_1)] rfl (by (try simp only [List.map_toArray, List.map_cons, List.map_nil]); first | done | rfl | (simp only [List.length_drop, List.length_take]; rfl)) ?_; (with_reducible refine (impl_isSign.calls (bt a0 x6_1) true _ A6.out).mono ?_); rintro e w' ⟨rfl, ⟨nd, rfl⟩⟩; refine ⟨_, rfl, ?_⟩; have p13 : 0 ≤ ((ji10) : Int) := of_decide_eq_true (by first | (with_reducible assumption) | assumption); have q13 : (ji10) < (a0.size : Int) := of_decide_eq_true (by first | (with_reducible assumption) | assumption); have hx13 := bt_at a0 (ji10); replace p13 := eq_true p13; replace q13 := eq_true q13) | (go_at_call 11; (with_reducible refine (impl_isSign.calls (bt a0 (ji10)) true _ A14.out).mono ?_); rintro e w' ⟨rfl, ⟨nd, rfl⟩⟩))
                        go_ret
                        exact ⟨by first | rfl | (simp [errW_none, errW_some] <;> rfl) | (simp only [← hji10]; first | rfl | (simp [errW_none, errW_some] <;> rfl)) | (simp [*, errW_none, errW_some] <;> rfl), by repeat (first | (with_reducible first | exact HB.out | apply below_alloc | apply pw_below_drewN | apply below_drew1) | exact HB.out)⟩
                      · replace c15 := Bool.eq_false_iff.mpr c15
                        subst c15
                        have H1 : (impl_IsSigned.l0 k1 a0 (a0.size : Int) (wrap64 (x6_1 + 1))) = some r := by rw [if_neg (show ¬ (false = true) by decide)] at H; exact H
                        clear H
                        have H := H1
                        clear H1
                        have H' := Aside0.mk H
                        clear H
                        have p5 : 0 ≤ (x6_1 : Int) := of_decide_eq_true (by first | (with_reducible assumption) | assumption)
                        have q5 : x6_1 < (a0.size : Int) := of_decide_eq_true (by first | (with_reducible assumption) | assumption)
                        have hx5 := bt_at a0 x6_1
                        replace p5 := eq_true p5
                        replace q5 := eq_true q5
                        go_wp2_with (first | ((with_reducible refine gate_callee (f := 11) rfl ?_); refine goesL_ (some 12) rfl rfl Try.func11 (by kernel_rfl) rfl #[.int .u8 (bt a0 x6_1)] rfl (by (try simp only [List.map_toArray, List.map_cons, List.map_nil]); first | done | rfl | (simp only [List.length_drop, List.length_take]; rfl)) ?_; (with_reducible refine (impl_isSign.calls (bt a0 x6_1) true _ A6.out).mono ?_); rintro e w' ⟨rfl, ⟨nd, rfl⟩⟩; refine ⟨_, rfl, ?_⟩; have p13 : 0 ≤ ((ji10) : Int) := of_decide_eq_true (by first | (with_reducible assumption) | assumption); have q13 : (ji10) < (a0.size : Int) := of_decide_eq_true (by first | (with_reducible assumption) | assumption); have hx13 := bt_at a0 (ji10); replace p13 := eq_true p13; replace q13 := eq_true q13) | (go_at_call 11; (with_reducible refine (impl_isSign.calls (bt a0 (ji10)) false _ A14.out).mono ?_); rintro e w' ⟨rfl, ⟨nd, rfl⟩⟩))
                        go_roundg k1
                        case measure => have := HK1.out; omega
                        case rel => exact ⟨(wrap64 (x6_1 + 1)), (by first | rfl | (simp; done) | (simp [*]; done)), H', ⟨by have := HK1.out; omega⟩, ⟨by repeat (first | (with_reducible first | exact HB.out | apply below_alloc | apply pw_below_drewN | apply below_drew1) | exact HB.out)⟩⟩
                    · rw [if_neg c12] at H
                      exact absurd H (by simp)
                  · rw [if_neg c11] at H
                    exact absurd H (by simp)
            · replace c7 := Bool.eq_false_iff.mpr c7
              subst c7
              have H1 : (impl_IsSigned.l0 k1 a0 (a0.size : Int) (wrap64 (x6_1 + 1))) = some r := by rw [if_neg (show ¬ (false = true) by decide)] at H; exact H
              clear H
              have H := H1
              clear H1
              have H' := Aside0.mk H
              clear H
              have p5 : 0 ≤ (x6_1 : Int) := of_decide_eq_true (by first | (with_reducible assumption) | assumption)
              have q5 : x6_1 < (a0.size : Int) := of_decide_eq_true (by first | (with_reducible assumption) | assumption)
              have hx5 := bt_at a0 x6_1
              replace p5 := eq_true p5
              replace q5 := eq_true q5
              go_wp2_with (first | ((with_reducible refine gate_callee (f := 11) rfl ?_); refine goesL_ (some 12) rfl rfl Try.func11 (by kernel_rfl) rfl #[.int .u8 (bt a0 x6_1)] rfl (by (try simp only [List.map_toArray, List.map_cons, List.map_nil]); first | done | rfl | (simp only [List.length_drop, List.length_take]; rfl)) ?_; (with_reducible refine (impl_isSign.calls (bt a0 x6_1) false _ A6.out).mono ?_); rintro e w' ⟨rfl, ⟨nd, rfl⟩⟩; refine ⟨_, rfl, ?_⟩))
              go_roundg k1
              case measure => have := HK1.out; omega
              case rel => exact ⟨(wrap64 (x6_1 + 1)), (by first | rfl | (simp; done) | (simp [*]; done)), H', ⟨by have := HK1.out; omega⟩, ⟨by repeat (first | (with_reducible first | exact HB.out | apply below_alloc | apply pw_below_drewN | apply below_drew1) | exact HB.out)⟩⟩
          · rw [if_neg c4] at H
            exact absurd H (by simp)
        · rw [if_neg c3] at H
          exact absurd H (by simp)
      · rw [if_neg c2] at H
        have c2b0 : decide (x6_1 < (a0.size : Int)) = false := decide_eq_false c2
        clear c2
        replace H := Option.bind_eq_some_iff.mp H
        obtain ⟨t110, A160, H⟩ := H
        replace H : ((impl_areSome.f k1 t110).bind fun t111 => (some t111)) = some r := H
        have A16 := Aside0.mk A160
        clear A160
        replace H := Option.bind_eq_some_iff.mp H
        obtain ⟨t111, A170, H⟩ := H
        replace H : (some t111) = some r := H
        have A17 := Aside0.mk A170
        clear A170
        obtain rfl := Option.some.inj H
        go_wp2_with (first | ((with_reducible refine gate_callee (f := 13) rfl ?_); refine goesL_ (some 33) rfl rfl Try.func13 (by kernel_rfl) rfl #[.string a0] rfl (by (try simp only [List.map_toArray, List.map_cons, List.map_nil]); first | done | rfl | (simp only [List.length_drop, List.length_take]; rfl)) ?_; (with_reducible refine (impl_plainDigits.calls a0 t110 _ A16.out).mono ?_); rintro e w18 ⟨rfl, hb⟩; refine ⟨_, rfl, ?_⟩; have n0_ := Aside0.mk (below_step (by repeat (first | (with_reducible first | exact HB.out | apply below_alloc | apply pw_below_drewN | apply below_drew1) | exact HB.out)) hb); clear HB; have HB := n0_; clear n0_; (try clear hb); (try clear hb2); (try clear hk); (try clear hi)) | ((with_reducible refine gate_callee (f := 12) rfl ?_); refine goesL_ (some 34) rfl rfl Try.func12 (by kernel_rfl) rfl #[.string t110] rfl (by (try simp only [List.map_toArray, List.map_cons, List.map_nil]); first | done | rfl | (simp only [List.length_drop, List.length_take]; rfl)) ?_; (with_reducible refine (impl_areSome.calls k1 t110 t111 _ A17.out).mono ?_); rintro e w' ⟨rfl, ⟨nd, rfl⟩⟩; refine ⟨_, rfl, ?_⟩))
        go_ret
        exact ⟨by first | rfl | (simp [errW_none, errW_some] <;> rfl) | (simp [*, errW_none, errW_some] <;> rfl), by repeat (first | (with_reducible first | exact HB.out | apply below_alloc | apply pw_below_drewN | apply below_drew1) | exact HB.out)⟩

/-! ### impl_TurnSigns: function 5 -/
-- --making --rounds
def impl_TurnSigns.f (k : Nat) (a0 : ByteArray) : Option (ByteArray × Bool) := (impl_IsSigned.f k a0).bind fun t => if t = true then (if a0.size ≤ 1048576 then some (strOfNums ((bytesOf a0).map Go.Proofs.Ytalcjjiahocpmaa.Rep.turned), true) else none) else some ((⟨#[]⟩ : ByteArray), false)
theorem impl_TurnSigns.mono : ∀ a0 k, LeO (impl_TurnSigns.f k a0) (impl_TurnSigns.f (k + 1) a0) := by
  intro a0 k
  unfold impl_TurnSigns.f
  exact LeO.bind (impl_IsSigned.mono _ _) (fun _ => LeO.refl _)
set_option maxHeartbeats 8000000 in
set_option maxRecDepth 100000 in
theorem impl_TurnSigns.calls (k : Nat) (a0 : ByteArray) (r1 : ByteArray) (r2 : Bool) (w : World) (h : impl_TurnSigns.f k a0 = some (r1, r2)) :
    Calls Try.prog 5 #[.string a0] w fun e w' => e = .returned (.tuple #[.string r1, .bool r2]) ∧ Below w.heap.size w w' := by
  unfold impl_TurnSigns.f at h
  replace h := Option.bind_eq_some_iff.mp h
  obtain ⟨t, A20, h⟩ := h
  have A2 := Aside0.mk A20
  clear A20
  cases t with
  | false =>
    simp at h
    obtain ⟨rfl, rfl⟩ := h
    go_enter Try.func5, Try.ntmps5
    go_wp2_with (go_at_call 7; refine (impl_IsSigned.calls k a0 false _ A2.out).mono ?_; rintro e w1 ⟨rfl, hB⟩; have HB := Aside0.mk hB; clear hB)
    go_ret2
    exact ⟨rfl, HB.out⟩
  | true =>
    by_cases hz : a0.size ≤ 1048576
    case neg => rw [if_pos rfl, if_neg hz] at h; cases h
    rw [if_pos rfl, if_pos hz] at h
    have hE := Option.some.inj h
    rw [Prod.mk.injEq] at hE
    obtain ⟨hE1, rfl⟩ := hE
    have HE1 := Aside0.mk hE1
    have HZ := Aside0.mk hz
    clear hE1 h hz
    go_enter Try.func5, Try.ntmps5
    go_wp2_with (first | (go_at_call 7; refine (impl_IsSigned.calls k a0 true _ A2.out).mono ?_; rintro e w1 ⟨rfl, hB⟩; have HB := Aside0.mk hB; clear hB) | (go_at_call 8; refine (Go.Proofs.Ytalcjjiahocpmaa.Rep.newRep_calls w1.heap.size 4 _ (by simp) (by go_simp) (by go_simp) (by go_simp) (by go_simp)).mono ?_; rintro e w2 ⟨b, g2, cap, s, rfl, q1, q2, q3, q4, q5, q6, q7, q8, q9⟩; have HQ := Aside0.mk (And.intro q1 q9); have HR := Aside0.mk (Go.Proofs.Ytalcjjiahocpmaa.Rep.replace_calls b g2 cap w1.heap.size w2 a0 s HZ.out (Nat.le_trans (by simp) q1) (Nat.le_trans (by simp) q9.size) q2 q3 q4 q5 q6 q7 q8); clear q1 q2 q3 q4 q5 q6 q7 q8 q9) | (go_at_call 9; refine HR.out.mono ?_; rintro e w3 ⟨rfl, hB3⟩; have HB3 := Aside0.mk hB3; clear hB3))
    go_ret2
    obtain ⟨q1, q9⟩ := HQ.out
    have h1 := ((Below.refl _ w1).alloc (Nat.le_refl _) (.cells #[.string (⟨#[43]⟩ : ByteArray), .string (⟨#[45]⟩ : ByteArray), .string (⟨#[45]⟩ : ByteArray), .string (⟨#[43]⟩ : ByteArray)] 9)).trans (q9.mono (by simp))
    exact ⟨by rw [← HE1.out]; rfl, HB.out.trans ((h1.trans HB3.out).mono HB.out.size)⟩

/-! ### laws_FnExactTurnSigns: function 3 -/
def laws_FnExactTurnSigns.f (k : Nat) (a0 : ByteArray) : Option (Bool) := if (a0.size : Int) > 1048576 then (some true) else ((spec_TurnSigns.f k a0).bind fun bt114 => ((impl_TurnSigns.f k a0).bind fun bt116 => (if bt116.1.toList = bt114.1.toList then (if (bt116.2 != bt114.2) = true then (some false) else (some true)) else (some false))))
theorem laws_FnExactTurnSigns.mono : ∀ a0 k, LeO (laws_FnExactTurnSigns.f k a0) (laws_FnExactTurnSigns.f (k + 1) a0) := by
  intro a0 k
  unfold laws_FnExactTurnSigns.f
  repeat' first
      | (with_reducible exact impl_TurnSigns.mono _ _)
      | (with_reducible exact spec_TurnSigns.mono _ _)
      | (with_reducible exact LeO.refl _)
      | (with_reducible exact LeO.none _)
      | (with_reducible refine LeO.ite ?_ ?_)
      | (with_reducible refine LeO.bind ?_ (fun _ => ?_))
      | exact impl_TurnSigns.mono _ _
      | exact spec_TurnSigns.mono _ _
      | exact LeO.none _
      | refine LeO.ite ?_ ?_
      | refine LeO.bind ?_ (fun _ => ?_)
set_option maxHeartbeats 8000000 in
set_option maxRecDepth 100000 in
theorem laws_FnExactTurnSigns.calls (k : Nat) (a0 : ByteArray) (r : Bool) (w : World) (h : laws_FnExactTurnSigns.f k a0 = some r) :
    Calls Try.prog 3 #[.string a0] w fun e w' => e = .returned (.bool r) ∧ Below w.heap.size w w' := by
  have HB := Aside0.mk (Below.refl w.heap.size w)
  have H : (if (a0.size : Int) > 1048576 then (some true) else ((spec_TurnSigns.f k a0).bind fun bt114 => ((impl_TurnSigns.f k a0).bind fun bt116 => (if bt116.1.toList = bt114.1.toList then (if (bt116.2 != bt114.2) = true then (some false) else (some true)) else (some false))))) = some r := h
  clear h
  by_cases c2 : (a0.size : Int) > 1048576
  · rw [if_pos c2] at H
    have c2b0 : decide (1048576 < (a0.size : Int)) = true := decide_eq_true c2
    have c2b1 : decide (1048576 < a0.size) = true := decide_eq_true (by omega)
    clear c2
    obtain rfl := Option.some.inj H
    go_enter Try.func3, Try.ntmps3
    go_wp2
    go_ret
    exact ⟨by first | rfl | (simp [errW_none, errW_some] <;> rfl) | (simp [*, errW_none, errW_some] <;> rfl), by repeat (first | (with_reducible first | exact HB.out | apply below_alloc | apply pw_below_drewN | apply below_drew1) | exact HB.out)⟩
  · rw [if_neg c2] at H
    have c2b0 : decide (1048576 < (a0.size : Int)) = false := decide_eq_false c2
    have c2b1 : decide (1048576 < a0.size) = false := decide_eq_false (by omega)
    clear c2
    replace H := Option.bind_eq_some_iff.mp H
    obtain ⟨⟨t114, t115⟩, A30, H⟩ := H
    replace H : ((impl_TurnSigns.f k a0).bind fun bt116 => (if bt116.1.toList = t114.toList then (if (bt116.2 != t115) = true then (some false) else (some true)) else (some false))) = some r := H
    have A3 := Aside0.mk A30
    clear A30
    replace H := Option.bind_eq_some_iff.mp H
    obtain ⟨⟨t116, t117⟩, A40, H⟩ := H
    replace H : (if t116.toList = t114.toList then (if (t117 != t115) = true then (some false) else (some true)) else (some false)) = some r := H
    have A4 := Aside0.mk A40
    clear A40
    by_cases c5 : t116.toList = t114.toList
    · rw [if_pos c5] at H
      have c5b0 : (t116.toList == t114.toList) = true := beq_iff_eq.mpr c5
      have c5b1 : (t116.toList != t114.toList) = false := bne_eq_false_iff_eq.mpr c5
      clear c5
      by_cases c6 : (t117 != t115) = true
      · rw [if_pos c6] at H
        have c6b0 : (t117 != t115) = true := c6
        (try (have c6b1 : decide (t117 = t115) = false := by simpa using c6))
        (try (have c6b2 : (t117 == t115) = false := by simpa using c6))
        (try (have c6b3 : ¬ (t117 = t115) := by simpa using c6))
        clear c6
        obtain rfl := Option.some.inj H
        go_enter Try.func3, Try.ntmps3
        go_wp2_with (first | ((with_reducible refine gate_callee (f := 4) rfl ?_); refine goesL_ (some 12) rfl rfl Try.func4 (by kernel_rfl) rfl #[.string a0] rfl (by (try simp only [List.map_toArray, List.map_cons, List.map_nil]); first | done | rfl | (simp only [List.length_drop, List.length_take]; rfl)) ?_; (with_reducible refine (spec_TurnSigns.calls k a0 t114 t115 _ A3.out).mono ?_); rintro e w' ⟨rfl, ⟨nd, rfl⟩⟩; refine ⟨_, rfl, ?_⟩) | ((with_reducible refine gate_callee (f := 5) rfl ?_); refine goesL_ (some 17) rfl rfl Try.func5 (by kernel_rfl) rfl #[.string a0] rfl (by (try simp only [List.map_toArray, List.map_cons, List.map_nil]); first | done | rfl | (simp only [List.length_drop, List.length_take]; rfl)) ?_; (with_reducible refine (impl_TurnSigns.calls k a0 t116 t117 _ A4.out).mono ?_); rintro e w7 ⟨rfl, hb⟩; refine ⟨_, rfl, ?_⟩; have n0_ := Aside0.mk (below_step (by repeat (first | (with_reducible first | exact HB.out | apply below_alloc | apply pw_below_drewN | apply below_drew1) | exact HB.out)) hb); clear HB; have HB := n0_; clear n0_; (try clear hb); (try clear hb2); (try clear hk); (try clear hi)))
        go_ret
        exact ⟨by first | rfl | (simp [errW_none, errW_some] <;> rfl) | (simp [*, errW_none, errW_some] <;> rfl), by repeat (first | (with_reducible first | exact HB.out | apply below_alloc | apply pw_below_drewN | apply below_drew1) | exact HB.out)⟩
      · rw [if_neg c6] at H
        have c6b0 : (t117 != t115) = false := by simpa using c6
        (try (have c6b1 : decide (t117 = t115) = true := by simpa using c6))
        (try (have c6b2 : (t117 == t115) = true := by simpa using c6))
        clear c6
        obtain rfl := Option.some.inj H
        go_enter Try.func3, Try.ntmps3
        go_wp2_with (first | ((with_reducible refine gate_callee (f := 4) rfl ?_); refine goesL_ (some 12) rfl rfl Try.func4 (by kernel_rfl) rfl #[.string a0] rfl (by (try simp only [List.map_toArray, List.map_cons, List.map_nil]); first | done | rfl | (simp only [List.length_drop, List.length_take]; rfl)) ?_; (with_reducible refine (spec_TurnSigns.calls k a0 t114 t115 _ A3.out).mono ?_); rintro e w' ⟨rfl, ⟨nd, rfl⟩⟩; refine ⟨_, rfl, ?_⟩) | ((with_reducible refine gate_callee (f := 5) rfl ?_); refine goesL_ (some 17) rfl rfl Try.func5 (by kernel_rfl) rfl #[.string a0] rfl (by (try simp only [List.map_toArray, List.map_cons, List.map_nil]); first | done | rfl | (simp only [List.length_drop, List.length_take]; rfl)) ?_; (with_reducible refine (impl_TurnSigns.calls k a0 t116 t117 _ A4.out).mono ?_); rintro e w8 ⟨rfl, hb⟩; refine ⟨_, rfl, ?_⟩; have n0_ := Aside0.mk (below_step (by repeat (first | (with_reducible first | exact HB.out | apply below_alloc | apply pw_below_drewN | apply below_drew1) | exact HB.out)) hb); clear HB; have HB := n0_; clear n0_; (try clear hb); (try clear hb2); (try clear hk); (try clear hi)))
        go_ret
        exact ⟨by first | rfl | (simp [errW_none, errW_some] <;> rfl) | (simp [*, errW_none, errW_some] <;> rfl), by repeat (first | (with_reducible first | exact HB.out | apply below_alloc | apply pw_below_drewN | apply below_drew1) | exact HB.out)⟩
    · rw [if_neg c5] at H
      have c5b0 : (t116.toList == t114.toList) = false := beq_eq_false_iff_ne.mpr c5
      have c5b1 : (t116.toList != t114.toList) = true := bne_iff_ne.mpr c5
      obtain rfl := Option.some.inj H
      go_enter Try.func3, Try.ntmps3
      go_wp2_with (first | ((with_reducible refine gate_callee (f := 4) rfl ?_); refine goesL_ (some 12) rfl rfl Try.func4 (by kernel_rfl) rfl #[.string a0] rfl (by (try simp only [List.map_toArray, List.map_cons, List.map_nil]); first | done | rfl | (simp only [List.length_drop, List.length_take]; rfl)) ?_; (with_reducible refine (spec_TurnSigns.calls k a0 t114 t115 _ A3.out).mono ?_); rintro e w' ⟨rfl, ⟨nd, rfl⟩⟩; refine ⟨_, rfl, ?_⟩) | ((with_reducible refine gate_callee (f := 5) rfl ?_); refine goesL_ (some 17) rfl rfl Try.func5 (by kernel_rfl) rfl #[.string a0] rfl (by (try simp only [List.map_toArray, List.map_cons, List.map_nil]); first | done | rfl | (simp only [List.length_drop, List.length_take]; rfl)) ?_; (with_reducible refine (impl_TurnSigns.calls k a0 t116 t117 _ A4.out).mono ?_); rintro e w9 ⟨rfl, hb⟩; refine ⟨_, rfl, ?_⟩; have n0_ := Aside0.mk (below_step (by repeat (first | (with_reducible first | exact HB.out | apply below_alloc | apply pw_below_drewN | apply below_drew1) | exact HB.out)) hb); clear HB; have HB := n0_; clear n0_; (try clear hb); (try clear hb2); (try clear hk); (try clear hi)))
      go_ret
      exact ⟨by first | rfl | (simp [errW_none, errW_some] <;> rfl) | (simp [*, errW_none, errW_some] <;> rfl), by repeat (first | (with_reducible first | exact HB.out | apply below_alloc | apply pw_below_drewN | apply below_drew1) | exact HB.out)⟩

/-- THE ONE PURE STATEMENT of laws_FnExactTurnSigns: yours. -/
def laws_FnExactTurnSigns.Pure : Prop := ∀ (a0 : ByteArray), a0.size ≤ 140737488351232 → ∃ k, laws_FnExactTurnSigns.f k a0 = some true
theorem laws_FnExactTurnSigns.walk (P : laws_FnExactTurnSigns.Pure) (a0 : ByteArray) (w : World) (w0 : a0.size ≤ 140737488351232) :
    Calls Try.prog 3 #[.string a0] w fun e w' => e = .returned (.bool true) ∧ Below w.heap.size w w' := by
  obtain ⟨k, h⟩ := P a0 w0
  refine (laws_FnExactTurnSigns.calls k a0 true w h).mono ?_
  rintro e w' ⟨rfl, hd⟩
  exact ⟨rfl, hd⟩

end Go.Proofs.Ytalcjjiahocpmaa.PFnExactTurnSigns
