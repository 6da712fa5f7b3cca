-- Laid by a program of this session (wip/myprint.py) out of the translation; some contracts in it are the session's own.
import Derived.Test.YtmplmfoacnnieaaDoorPFnExactCountPlatesx0
import Derived.Test.YtmplmfoacnnieaaDoorPFnExactCountPlatesx1
import Derived.Test.YtmplmfoacnnieaaDoorPFnExactCountPlatesx4
import Derived.Test.YtmplmfoacnnieaaDoorPFnExactCountPlatesx5
import Derived.Test.YtmplmfoacnnieaaDoorPFnExactCountPlatesx6
namespace Go.Proofs.YtmplmfoacnnieaaDoor.PFnExactCountPlates
open Go.RowKit Go.Proofs.YtmplmfoacnnieaaDoorW.PrintWords Go.Proofs.YtmplmfoacnnieaaDoorW.PrintLast Go.Proofs.YtmplmfoacnnieaaDoorW.PrintMore
attribute [local go_sem] max2_int min2_int max_two min_two max_three min_three max_four min_four   -- for this text's walks alone
set_option linter.unusedVariables false
set_option linter.unusedSimpArgs false

/-! ### impl_CountPlates: function 20 -/
-- --making --rounds
def preW (t : ByteArray) (i : Int) (u : ByteArray) : Bool := Lib.hasPrefix u.data.toList (t.extract i.toNat t.size).data.toList
def tailT (ws : List ByteArray) (t : ByteArray) : Nat → Int → ByteArray
  | 0, _ => ⟨#[]⟩
  | d + 1, i => if ws.any (preW t i) = true then t.extract i.toNat t.size else tailT ws t d (i + 1)
set_option maxHeartbeats 2000000 in
set_option maxRecDepth 100000 in
theorem anyP_calls (A : Option Addr) (c : Nat) (l : List ByteArray) (t : ByteArray) (i : Int) (B3 C : Nat) (w : World) (hr : Kd.C Kd.string w A l.length l) (hl : l.length ≤ 1048576) (hi0 : 0 ≤ i) (hi1 : i ≤ (t.size : Int))
    (h3 : w.cell? ⟨B3, 0, none⟩ = some (.string t)) (h5 : w.cell? ⟨C, 0, none⟩ = some (.int .i64 i)) :
    Calls Tryd.prog 51 #[.slice A l.length c, .func (.func 89) #[] #[.pointer (some ⟨B3, 0, none⟩), .pointer (some ⟨C, 0, none⟩)]] w fun e w' => e = .returned (.bool (l.any (preW t i))) ∧ ∃ q, w' = w.drewN q := by
  rcases Nat.eq_zero_or_pos l.length with h0 | h0
  · have : l = [] := List.length_eq_zero_iff.mp h0
    subst this
    exact (Tryd.slices_ContainsFunc_empty (α := Nat) A c _ w).mono fun e w' ⟨he, hw⟩ => ⟨he, 0, hw⟩
  · obtain ⟨b, off, rfl, hc⟩ := kdC_cells hr h0
    haveI : Inhabited ByteArray := ⟨ByteArray.empty⟩
    have hp : PredAt Tryd.prog 89 #[.pointer (some ⟨B3, 0, none⟩), .pointer (some ⟨C, 0, none⟩)] (fun x : ByteArray => Value.string x) (preW t i) w := by
      intro W x hb
      have h3' : W.cell? ⟨B3, 0, none⟩ = some (.string t) := (hb.cell (World.block_lt_of_cell? w _ h3)).trans h3
      have h5' : W.cell? ⟨C, 0, none⟩ = some (.int .i64 i) := (hb.cell (World.block_lt_of_cell? w _ h5)).trans h5
      clear h3 h5 hr hc hb
      show Calls _ _ #[.string x, .pointer (some ⟨B3, 0, none⟩), .pointer (some ⟨C, 0, none⟩)] W _
      obtain ⟨bv, hbv⟩ : ∃ bv, preW t i x = bv := ⟨_, rfl⟩
      rw [hbv]
      have HP := Aside0.mk (show Calls Tryd.prog 90 #[.string x, .string (t.extract i.toNat t.size)] W fun e w' => e = .returned (.bool bv) ∧ w' = W by rw [← hbv]; exact Tryd.strings_HasPrefix x (t.extract i.toNat t.size) W)
      clear hbv
      go_enter Tryd.func89, Tryd.ntmps89
      go_wp2_with (go_at_call 90; (with_reducible refine (HP.out).mono ?_); rintro e w' ⟨rfl, rfl⟩)
      go_ret
      exact ⟨rfl, 0, rfl⟩
    have hres := Tryd.slices_ContainsFunc (fun x : ByteArray => Value.string x) (preW t i) 89 #[.pointer (some ⟨B3, 0, none⟩), .pointer (some ⟨C, 0, none⟩)] (enters_of Tryd.func89 (by kernel_rfl) rfl) b off l.length c l w hp (Nat.le_refl _) (by omega) (fun j hj => by rw [hc j hj, getElem!_pos _ j hj])
    refine hres.mono ?_
    rintro e w' ⟨rfl, q, rfl⟩
    exact ⟨by rw [List.take_length], q, rfl⟩
set_option maxHeartbeats 4000000 in
set_option maxRecDepth 100000 in
theorem tail_calls (p b : ByteArray) (A : Option Addr) (c : Nat) (l : List ByteArray) (vm : Value) (t : ByteArray) (w : World) (hr : Kd.C Kd.string w A l.length l) (hl : l.length ≤ 1048576) (ht : t.size ≤ 1048576) :
    Calls Tryd.prog 70 #[.agg #[.string p, .string b, .slice A l.length c, vm], .string t] w fun e w' => e = .returned (.string (tailT l t (t.size - (t.size - 4)) ((t.size - 4 : Nat) : Int))) ∧ Below w.heap.size w w' := by
  have HR := Aside0.mk hr
  have HL := Aside0.mk hl
  clear hr hl
  have hmx : Aside0 ((if (0 : Int) < (t.size : Int) - 4 then (t.size : Int) - 4 else 0) = ((t.size - 4 : Nat) : Int)) := ⟨by split <;> omega⟩
  go_enter Tryd.func70, Tryd.ntmps70
  go_wp2_with (first | ((with_reducible refine gate_dst (N := 2) rfl ?_); refine box_event ?hg (N := 2) ?hd (cs := #[.string p, .string b, .slice A l.length c, vm]) (t := 59) ?hr ?_; (case hd => rfl); (case hg => rfl); (case hr => first | (go_simp; done) | (go_simp; rfl)); intro B2 hg2 w2 hx2 hb2; have HX2 := Aside0.mk hx2; have HB2 := Aside0.mk hb2; have HG2 := Aside0.mk hg2; clear hx2 hb2 hg2) | ((with_reducible refine gate_dst (N := 3) rfl ?_); refine box_event ?hg (N := 3) ?hd (cs := #[.string t]) (t := 9) ?hr ?_; (case hd => rfl); (case hg => rfl); (case hr => first | (go_simp; done) | (go_simp; rfl)); intro B3 hg3 w3 hx3 hb3; have HX3 := Aside0.mk hx3; have HB3 := Aside0.mk hb3; have HG3 := Aside0.mk hg3; have hc3 := (blk_cell hx3 0).trans rfl; clear hx3 hb3 hg3))
  all_goals
    have H23 := Aside0.mk (show B2 < w3.heap.size ∧ B3 < w3.heap.size ∧ w.heap.size ≤ w3.heap.size by
      have h1 := blk_lt HX2.out
      have h2 := blk_lt HX3.out
      have h3 := HB3.out.size
      have h4 := HB2.out.size
      omega)
    go_loopg [5] (t.size - (t.size - 4)) (fun d v5 w' => ∃ C i : Nat, v5 = .pointer (some ⟨C, 0, none⟩) ∧ Aside0 (i + d = t.size) ∧ Aside0 (tailT l t d (i : Int) = tailT l t (t.size - (t.size - 4)) ((t.size - 4 : Nat) : Int)) ∧ Aside0 (w'.heap[C]? = some (.cells #[.int .i64 (i : Int)] 3 (0, 0))) ∧ Aside0 (C ≠ B2 ∧ C ≠ B3 ∧ w.heap.size ≤ C) ∧ Aside0 (w'.heap[B2]? = some (.cells #[.string p, .string b, .slice A l.length c, vm] 59 (0, 0))) ∧ Aside0 (w'.heap[B3]? = some (.cells #[.string t] 9 (0, 0))) ∧ Aside0 (Below w.heap.size w w'))
    case atStart => exact ⟨w3.heap.size, t.size - 4, rfl, ⟨by omega⟩, ⟨rfl⟩, ⟨by first | (rw [show ((t.size - 4 : Nat) : Int) = 0 by omega]; exact heap_alloc_last w3 _) | (rw [show ((t.size - 4 : Nat) : Int) = (t.size : Int) - 4 by omega]; exact heap_alloc_last w3 _)⟩, ⟨by have := H23.out; omega⟩, ⟨blk_alloc (blk_below HX2.out HB3.out) _⟩, ⟨blk_alloc HX3.out _⟩, ⟨(HB2.out.trans (HB3.out.mono HB2.out.size)).alloc H23.out.2.2 _⟩⟩
    case round =>
      clear HX2 HB2 HX3 HB3 H23 hc3
      obtain ⟨C, i, rfl, HI, HE, HC, HN, HX2, HX3, HB⟩ := hrel
      have hcC : wr.cell? ⟨C, 0, none⟩ = some (.int .i64 (i : Int)) := (blk_cell HC.out 0).trans rfl
      have hc3 : wr.cell? ⟨B3, 0, none⟩ = some (.string t) := (blk_cell HX3.out 0).trans rfl
      have hc2 : wr.cell? ⟨B2, 2, none⟩ = some (.slice A l.length c) := (blk_cell HX2.out 2).trans rfl
      cases gk with
      | zero =>
        have hlt : ¬ (i : Int) < (t.size : Int) := by have := HI.out; omega
        go_wp2
        go_ret
        exact ⟨by rw [← HE.out]; rfl, HB.out⟩
      | succ d =>
        have hi : i < t.size := by have := HI.out; omega
        have hlt : (i : Int) < (t.size : Int) := by omega
        have hle : (i : Int) ≤ (t.size : Int) := by omega
        have HAP := Aside0.mk (anyP_calls A c l t (i : Int) B3 C wr (Kd.C_below HR.out HB.out) HL.out (Int.natCast_nonneg i) hle hc3 hcC)
        obtain ⟨bv, hbv⟩ : ∃ bv, l.any (preW t (i : Int)) = bv := ⟨_, rfl⟩
        rw [hbv] at HAP
        have HBV := Aside0.mk hbv
        clear hbv
        cases bv with
        | true =>
          go_wp2_with (go_at_call 51; (with_reducible refine (HAP.out).mono ?_); rintro e w' ⟨rfl, q, rfl⟩)
          go_ret
          exact ⟨by rw [← HE.out]; unfold tailT; rw [if_pos HBV.out, Int.toNat_natCast]; rfl, pw_below_drewN HB.out _⟩
        | false =>
          go_wp2_with (go_at_call 51; (with_reducible refine (HAP.out).mono ?_); rintro e w4 ⟨rfl, hw4⟩; have HW4 := Aside0.mk hw4; have hcC4 := (by obtain ⟨q, rfl⟩ := hw4; exact hcC : w4.cell? ⟨C, 0, none⟩ = some (.int .i64 (i : Int))); clear hw4 hcC hc3 hc2)
          obtain ⟨q, hq⟩ := HW4.out
          have hsz4 : w4.heap.size = wr.heap.size := by rw [hq]; rfl
          go_roundg d
          case measure => omega
          case rel => exact ⟨w4.heap.size, i + 1, rfl, ⟨by have := HI.out; omega⟩, ⟨(show tailT l t (d + 1) (i : Int) = tailT l t d ((i : Int) + 1) by simp only [tailT]; rw [if_neg (by rw [HBV.out]; decide)]).symm.trans HE.out⟩, ⟨heap_alloc_last w4 _⟩, ⟨by have h1 := blk_lt HX2.out; have h2 := blk_lt HX3.out; have h3 := HB.out.size; omega⟩, ⟨blk_alloc (by rw [hq]; exact HX2.out) _⟩, ⟨blk_alloc (by rw [hq]; exact HX3.out) _⟩, ⟨by have h3 := HB.out.size; exact (by rw [hq]; exact pw_below_drewN HB.out q : Below w.heap.size w w4).alloc (by omega) _⟩⟩
def tl (ws : List ByteArray) (t : ByteArray) : ByteArray := tailT ws t (t.size - (t.size - 4)) ((t.size - 4 : Nat) : Int)
theorem tailT_size (ws : List ByteArray) (t : ByteArray) : ∀ (d i : Nat), i + d = t.size → (tailT ws t d (i : Int)).size ≤ d
  | 0, _, _ => Nat.le_refl _
  | d + 1, i, h => by
    simp only [tailT]
    split
    · rw [ByteArray.size_extract, Int.toNat_natCast]; omega
    · have := tailT_size ws t d (i + 1) (by omega)
      exact Nat.le_trans this (Nat.le_succ d)
theorem tl_size (ws : List ByteArray) (t : ByteArray) : (tl ws t).size ≤ 4 := by
  have := tailT_size ws t (t.size - (t.size - 4)) (t.size - 4) (by omega)
  unfold tl
  omega
def sumS (F : ByteArray → Option Int) (Wd : ByteArray → Option (List Int)) (e : ByteArray) : List Int → Int → Option Int
  | [], acc => some acc
  | c :: r, acc => (Wd (e ++ strOfNums [c])).bind fun is => if is.length = 0 then (F (e ++ strOfNums [c])).bind fun v => sumS F Wd e r (wrap64 (acc + v)) else sumS F Wd e r acc
def fromE (k : Nat) (p b : ByteArray) (ws : List ByteArray) : Nat → Int → ByteArray → Option Int
  | 0, _, _ => none
  | d + 1, place, e => (impl_Scheme_allowed.f k p b ws place).bind fun al => if al.length ≤ 36 ∧ (∀ c ∈ al, 0 ≤ c ∧ c < 256) then sumS (fun nx => if place + 1 = (p.size : Int) then some 1 else fromE k p b ws d (place + 1) (tl ws nx)) (fun nx => impl_Scheme_wordsIn.f k p b ws nx) e al 0 else none
def fromF (k : Nat) (p b : ByteArray) (ws : List ByteArray) (d : Nat) (place : Int) (text : ByteArray) : Option Int := if place = (p.size : Int) then some 1 else fromE k p b ws d place (tl ws text)
def keyS (place : Int) (e : ByteArray) : ByteArray := strOfNums [97 + place] ++ e
def keyL (place : Int) (e : ByteArray) : Lit := .string (keyS place e).data.toList
def MemoOk (k : Nat) (p b : ByteArray) (ws : List ByteArray) (D : DataW Unit) : Prop := ∀ (d : Nat) (place : Int) (e : ByteArray) (v : Int), (d : Int) + place = (p.size : Int) → 0 ≤ place → fromE k p b ws d place e = some v → Maps.has D (keyL place e) = true → D.atKey (keyL place e) (.lit (.int .i64 0)) = .lit (.int .i64 v)
def upN : Nat → Nat
  | 0 => 0
  | d + 1 => 1 + 36 * upN d
def KeepM (M : Nat) (w w' : World) : Prop := w.heap.size ≤ w'.heap.size ∧ ∀ kb, kb < w.heap.size → kb ≠ M → w'.heap[kb]? = w.heap[kb]?
theorem KeepM.refl (M : Nat) (w : World) : KeepM M w w := ⟨Nat.le_refl _, fun _ _ _ => rfl⟩
theorem KeepM.trans {M : Nat} {a b c : World} (h : KeepM M a b) (k : KeepM M b c) : KeepM M a c := ⟨Nat.le_trans h.1 k.1, fun kb h1 h2 => (k.2 kb (Nat.lt_of_lt_of_le h1 h.1) h2).trans (h.2 kb h1 h2)⟩
theorem KeepM.of_below {M : Nat} {a b : World} (h : Below a.heap.size a b) : KeepM M a b := ⟨h.size, fun kb h1 _ => h.block kb h1⟩
theorem KeepM.of_grown {M : Nat} {a b : World} (h : a.grownBy b (some M)) : KeepM M a b := ⟨h.size, fun kb h1 h2 => h.block kb h1 (fun e => h2 (Option.some.inj e))⟩
theorem keyS_inj {p1 p2 : Int} {e1 e2 : ByteArray} (h1 : 0 ≤ p1) (h2 : 0 ≤ p2) (b1 : p1 ≤ 100) (b2 : p2 ≤ 100) (h : (keyS p1 e1).data.toList = (keyS p2 e2).data.toList) : p1 = p2 ∧ e1 = e2 := by
  have hl : ∀ (q : Int) (e : ByteArray), (keyS q e).data.toList = UInt8.ofNat (97 + q).toNat :: e.data.toList := fun q e => by
    unfold keyS
    rw [ByteArray.data_append, Array.toList_append]
    simp [strOfNums]
  rw [hl, hl] at h
  have h3 := (List.cons.inj h).1
  have h4 := (List.cons.inj h).2
  refine ⟨?_, ByteArray.ext (Array.ext' h4)⟩
  have h5 := congrArg UInt8.toNat h3
  simp at h5
  omega
theorem memo_put {k : Nat} {p b : ByteArray} {ws : List ByteArray} {D : DataW Unit} {d0 : Nat} {place0 : Int} {e0 : ByteArray} {v0 : Int} (hp : p.size ≤ 100) (hm : Go.Maps.IsMap D) (h : MemoOk k p b ws D) (hd : (d0 : Int) + place0 = (p.size : Int)) (h0 : 0 ≤ place0) (hv : fromE k p b ws d0 place0 e0 = some v0) :
    MemoOk k p b ws (D.put (keyL place0 e0) (.lit (.int .i64 v0))) := by
  intro d place e v h1 h2 h3 h4
  by_cases c : keyL place e = keyL place0 e0
  · have c2 : (keyS place e).data.toList = (keyS place0 e0).data.toList := by unfold keyL at c; injection c
    obtain ⟨rfl, rfl⟩ := keyS_inj h2 h0 (by omega) (by omega) c2
    have : d = d0 := by omega
    subst this
    rw [h3] at hv
    obtain rfl := Option.some.inj hv
    exact Go.Maps.atKey_put_same hm (by unfold keyL; trivial) _ _
  · rw [Go.Maps.has_put_other c] at h4
    rw [Go.Maps.atKey_put_other c]
    exact h d place e v h1 h2 h3 h4
theorem R_keepM {α : Type} {d : Kd α} {e base : Nat} {W W' : World} {v : Value} {xs : List α} {M : Nat} (h : d.R e W base (fun _ => True) v xs) (hM : M < base) (hk : KeepM M W W') : d.R e W' base (fun _ => True) v xs :=
  Kd.R_mono (Kd.R_step (Kd.R_bound h) (fun k hq hlt => hk.2 k hlt (by have := hq.2.1; omega))) (fun _ _ => trivial)
theorem owns_move_ {w w' : World} {P : Program} {k : TypeId} {R : Value → Option (DataW Unit × List MemPlace)} {b n : Nat} {D : DataW Unit} (h : w.ownsMap P k R b n D) (hb : w'.heap[b]? = w.heap[b]?) : w'.ownsMap P k R b n D := by
  obtain ⟨es, clock, h1, h2, h3, h4⟩ := h
  exact ⟨es, clock, hb.trans h1, h2, h3, h4⟩
theorem keyOf_str_ (s : ByteArray) (h : s.size ≤ maxLen) : keyOf Tryd.prog 9 (.string s) = some (.string s.data.toList) := by
  rw [keyOf_string Tryd.underlying9]
  simp [mapKey, Tryd.underlying9, h]
theorem conv_one (W : World) (x : Int) (h0 : 0 ≤ x) (h1 : x < 256) : (convert 69 9 (.slice (some ⟨W.heap.size, 0, none⟩) 1 1)).run Tryd.prog (W.alloc (.cells #[.int .u8 x] 5)) = .ok (.string (strOfNums [x])) (W.alloc (.cells #[.int .u8 x] 5)) := by
  have h := run_convert_bytes_back (P := Tryd.prog) (W.alloc (.cells #[.int .u8 x] 5)) 69 9 5 ⟨W.heap.size, 0, none⟩ 1 [UInt8.ofNat x.toNat] Tryd.underlying69 Tryd.underlying5 Tryd.underlying9 (fun j hj => by
    have hj0 : j = 0 := by simpa using hj
    subst hj0
    rw [Addr.add_lit, Nat.zero_add]
    refine (blk_cell (heap_alloc_last W (.cells #[.int .u8 x] 5)) 0).trans ?_
    have : ((UInt8.ofNat x.toNat).toNat : Int) = x := by simp; omega
    simp only [List.getElem_cons_zero, this]
    rfl)
  simpa [strOfNums] using h
theorem strK : Go.Maps.Keyed Tryd.prog 9 := Go.Maps.string_keyed Tryd.underlying9
theorem zeroI (w : World) : (zeroValue 3).run Tryd.prog w = .ok (.int .i64 0) w := by kernel_rfl
def OwnM (M n : Nat) (D : DataW Unit) (w : World) : Prop := w.ownsMap Tryd.prog 9 (plainElem (H := Unit) Tryd.prog 3) M n D
set_option maxHeartbeats 8000000 in
set_option maxRecDepth 100000 in
theorem from_calls (k : Nat) (p b : ByteArray) (A : Option Addr) (c : Nat) (l : List ByteArray) (M : Nat) (w0 : World) (hp : p.size ≤ 100) (hl : l.length ≤ 1048576) (hlc : l.length ≤ c) (hC : Kd.C Kd.string w0 A l.length l) (henv : EnvT w0) (hM : w0.heap.size ≤ M) :
    ∀ (d : Nat) (place : Int) (text : ByteArray) (r : Int) (w : World) (n : Nat) (D : DataW Unit), (d : Int) + place = (p.size : Int) → 0 ≤ place → text.size ≤ 5 → fromF k p b l d place text = some r → Below w0.heap.size w0 w → OwnM M n D w → MemoOk k p b l D → n + upN d < 9000000000000000000 →
      Calls Tryd.prog 47 #[.agg #[.string p, .string b, .slice A l.length c, .map (some M)], .int .i64 place, .string text] w fun e w' => e = .returned (.int .i64 r) ∧ ∃ n' D', OwnM M n' D' w' ∧ n' ≤ n + upN d ∧ MemoOk k p b l D' ∧ Below w0.heap.size w0 w' ∧ KeepM M w w' := by
  intro d
  induction d with
  | zero =>
    intro place text r w n D hd hp0 ht hf hB hO hm hn
    have HE := Aside0.mk (And.intro hB (And.intro hO hm))
    have he : place = (p.size : Int) := by omega
    have hr : r = 1 := by
      unfold fromF at hf
      rw [if_pos he] at hf
      exact (Option.some.inj hf).symm
    subst hr
    clear hd hf hB hO hm hn ht hp0 hC henv hM hlc hl
    have heb : (place == (p.size : Int)) = true := beq_iff_eq.mpr he
    clear he
    go_enter Tryd.func47, Tryd.ntmps47
    go_wp2_with ((with_reducible refine gate_dst (N := 3) rfl ?_); refine box_event ?hg (N := 3) ?hd (cs := #[.string p, .string b, .slice A l.length c, .map (some M)]) (t := 59) ?hr ?_; (case hd => rfl); (case hg => rfl); (case hr => first | (go_simp; done) | (go_simp; rfl)); intro B3 hg3 w3 hx3 hb3; have HX3 := Aside0.mk hx3; have HB3 := Aside0.mk hb3; have hc30 := (blk_cell hx3 0).trans rfl; have hc31 := (blk_cell hx3 1).trans rfl; have hc32 := (blk_cell hx3 2).trans rfl; have hc33 := (blk_cell hx3 3).trans rfl; clear hx3 hb3 hg3)
    go_ret
    obtain ⟨hB, hO, hm⟩ := HE.out
    exact ⟨rfl, n, D, owns_move_ hO (HB3.out.block M hO.lt), Nat.le_add_right _ _, hm, hB.trans (HB3.out.mono hB.size), KeepM.of_below HB3.out⟩
  | succ d ih =>
    intro place text r w n D hd hp0 ht hf hB hO hm hn
    have hne : ¬ place = (p.size : Int) := by omega
    unfold fromF at hf
    rw [if_neg hne] at hf
    obtain ⟨e, he⟩ : ∃ e, tl l text = e := ⟨_, rfl⟩
    have hes : e.size ≤ 4 := by rw [← he]; exact tl_size l text
    rw [he] at hf
    have HT := Aside0.mk (fun (W : World) (hW : Below w0.heap.size w0 W) => (show Calls Tryd.prog 70 #[.agg #[.string p, .string b, .slice A l.length c, .map (some M)], .string text] W fun e' w' => e' = .returned (.string e) ∧ Below W.heap.size W w' by
      rw [← he]
      exact tail_calls p b A c l (.map (some M)) text W (Kd.C_below hC hW) hl (by omega)))
    have hneb : (place == (p.size : Int)) = false := beq_eq_false_iff_ne.mpr hne
    have hpw : place + 1 ≤ 1000 := by omega
    obtain ⟨z, hz⟩ : ∃ z, strOfNums [97 + place] = z := ⟨_, rfl⟩
    have hzs : z.size = 1 := by rw [← hz]; simp [strOfNums, ByteArray.size]
    have hke : keyL place e = .string (z ++ e).data.toList := by unfold keyL keyS; rw [hz]
    have hsz : (z ++ e).size ≤ 5 := by rw [ByteArray.size_append]; omega
    have HK := Aside0.mk (keyOf_str_ (z ++ e) (by unfold maxLen; omega))
    have hmod : (97 + place) % 256 = 97 + place := by omega
    have hcv : ∀ W : World, (convert 69 9 (.slice (some ⟨W.heap.size, 0, none⟩) 1 1)).run Tryd.prog (W.alloc (.cells #[.int .u8 (97 + place)] 5)) = .ok (.string z) (W.alloc (.cells #[.int .u8 (97 + place)] 5)) := fun W => by rw [← hz]; exact conv_one W _ (by omega) (by omega)
    have HKE := Aside0.mk hke
    clear hne he hz
    cases hh : Maps.has D (.string (z ++ e).data.toList) with
    | true =>
      have hat := hm (d + 1) place e r hd hp0 hf (by rw [hke]; exact hh)
      rw [hke] at hat
      clear hke
      have HE := Aside0.mk (And.intro hB (And.intro hO hm))
      have HAT := Aside0.mk (And.intro hh hat)
      have HP := Aside0.mk (And.intro hp0 hpw)
      clear hd hf hB hO hm hn ht hC henv hM hlc hl ih hat hh
      go_enter Tryd.func47, Tryd.ntmps47
      go_wp2_with (first | ((with_reducible refine gate_dst (N := 3) rfl ?_); refine box_event ?hg (N := 3) ?hd (cs := #[.string p, .string b, .slice A l.length c, .map (some M)]) (t := 59) ?hr ?_; (case hd => rfl); (case hg => rfl); (case hr => first | (go_simp; done) | (go_simp; rfl)); intro B3 hg3 w3 hx3 hb3; have HX3 := Aside0.mk hx3; have HB3 := Aside0.mk hb3; have hc30 := (blk_cell hx3 0).trans rfl; have hc31 := (blk_cell hx3 1).trans rfl; have hc32 := (blk_cell hx3 2).trans rfl; have hc33 := (blk_cell hx3 3).trans rfl; clear hx3 hb3 hg3) | (go_at_call 70; refine (HT.out _ (HE.out.1.trans (HB3.out.mono HE.out.1.size))).mono ?_; rintro e4 w4 ⟨rfl, hb4⟩; have HX4 := Aside0.mk (blk_below HX3.out hb4); have HB4 := Aside0.mk hb4; have hc40 := (blk_cell HX4.out 0).trans rfl; have hc41 := (blk_cell HX4.out 1).trans rfl; have hc42 := (blk_cell HX4.out 2).trans rfl; have hc43 := (blk_cell HX4.out 3).trans rfl; have hc43a : ∀ o, (w4.alloc o).cell? ⟨B3, 3, none⟩ = some (.map (some M)) := (fun o => (blk_cell (blk_alloc HX4.out o) 3).trans rfl); clear hb4 hc30 hc31 hc32 hc33) | (at_lookup; refine wpList_lookup_own_ok_int _ rfl _ _ 57 rfl 9 3 .i64 strK Tryd.underlying57 Tryd.underlying3 (zeroI _) M n D rfl (owns_move_ HE.out.2.1 (by show (w4.heap.push _)[M]? = _; exact ((Below.heap_alloc w4 _ M (Nat.lt_of_lt_of_le HE.out.2.1.lt (Nat.le_trans HB3.out.size HB4.out.size))).trans (HB4.out.block M (Nat.lt_of_lt_of_le HE.out.2.1.lt HB3.out.size))).trans (HB3.out.block M HE.out.2.1.lt))) _ _ rfl HK.out ?_; intro c2 hat2 hwc; obtain rfl : c2 = r := (by have h := hat2.symm.trans HAT.out.2; injection h with h; injection h); rw [HAT.out.1]; clear hat2 hwc))
      go_ret
      obtain ⟨hB, hO, hm⟩ := HE.out
      have hb5 := (HB3.out.trans (HB4.out.mono HB3.out.size)).alloc (Nat.le_trans HB3.out.size HB4.out.size) (.cells #[.int .u8 (97 + place)] 5)
      exact ⟨rfl, n, D, owns_move_ hO (hb5.block M hO.lt), Nat.le_add_right _ _, hm, hB.trans (hb5.mono hB.size), KeepM.of_below hb5⟩
    | false =>
      have HF := Aside0.mk hf
      simp only [fromE] at hf
      replace hf := Option.bind_eq_some_iff.mp hf
      obtain ⟨al, hal, hf⟩ := hf
      by_cases hal2 : al.length ≤ 36 ∧ (∀ c ∈ al, 0 ≤ c ∧ c < 256)
      case neg => rw [if_neg hal2] at hf; cases hf
      rw [if_pos hal2] at hf
      have HL := Aside0.mk hal2
      have HAL := Aside0.mk (fun (W : World) (hW : Below w0.heap.size w0 W) => impl_Scheme_allowed.calls k p b A c l place al W (Kd.C_below hC hW) hlc hal)
      have HWD := Aside0.mk (fun (W : World) (hW : Below w0.heap.size w0 W) (t : ByteArray) (is : List Int) (hi : impl_Scheme_wordsIn.f k p b l t = some is) => impl_Scheme_wordsIn.calls k p b A c l t is W (Kd.C_below hC hW) hlc hi (env_below henv hW))
      have HIH := Aside0.mk ih
      have HE := Aside0.mk (And.intro hB (And.intro hO hm))
      have HS := Aside0.mk hf
      have HH := Aside0.mk hh
      have HN := Aside0.mk hn
      have HD := Aside0.mk hd
      have HM0 := Aside0.mk hM
      clear hd hf hB hO hm hn ht hC henv hM hlc hl ih hh hal hal2 hke
      go_enter Tryd.func47, Tryd.ntmps47
      go_wp2_with (first | ((with_reducible refine gate_dst (N := 3) rfl ?_); refine box_event ?hg (N := 3) ?hd (cs := #[.string p, .string b, .slice A l.length c, .map (some M)]) (t := 59) ?hr ?_; (case hd => rfl); (case hg => rfl); (case hr => first | (go_simp; done) | (go_simp; rfl)); intro B3 hg3 w3 hx3 hb3; have HX3 := Aside0.mk hx3; have HG3 := Aside0.mk hg3; have HB3 := Aside0.mk hb3; have hc30 := (blk_cell hx3 0).trans rfl; have hc31 := (blk_cell hx3 1).trans rfl; have hc32 := (blk_cell hx3 2).trans rfl; have hc33 := (blk_cell hx3 3).trans rfl; clear hx3 hb3 hg3) | (go_at_call 70; refine (HT.out _ (HE.out.1.trans (HB3.out.mono HE.out.1.size))).mono ?_; rintro e4 w4 ⟨rfl, hb4⟩; have HX4 := Aside0.mk (blk_below HX3.out hb4); have HB4 := Aside0.mk hb4; have hc40 := (blk_cell HX4.out 0).trans rfl; have hc41 := (blk_cell HX4.out 1).trans rfl; have hc42 := (blk_cell HX4.out 2).trans rfl; have hc43 := (blk_cell HX4.out 3).trans rfl; have hc40a : ∀ o, (w4.alloc o).cell? ⟨B3, 0, none⟩ = some (.string p) := (fun o => (blk_cell (blk_alloc HX4.out o) 0).trans rfl); have hc41a : ∀ o, (w4.alloc o).cell? ⟨B3, 1, none⟩ = some (.string b) := (fun o => (blk_cell (blk_alloc HX4.out o) 1).trans rfl); have hc42a : ∀ o, (w4.alloc o).cell? ⟨B3, 2, none⟩ = some (.slice A l.length c) := (fun o => (blk_cell (blk_alloc HX4.out o) 2).trans rfl); have hc43a : ∀ o, (w4.alloc o).cell? ⟨B3, 3, none⟩ = some (.map (some M)) := (fun o => (blk_cell (blk_alloc HX4.out o) 3).trans rfl); clear hb4 hc30 hc31 hc32 hc33) | (at_lookup; refine wpList_lookup_own_ok_int _ rfl _ _ 57 rfl 9 3 .i64 strK Tryd.underlying57 Tryd.underlying3 (zeroI _) M n D rfl (owns_move_ HE.out.2.1 (by show (w4.heap.push _)[M]? = _; exact ((Below.heap_alloc w4 _ M (Nat.lt_of_lt_of_le HE.out.2.1.lt (Nat.le_trans HB3.out.size HB4.out.size))).trans (HB4.out.block M (Nat.lt_of_lt_of_le HE.out.2.1.lt HB3.out.size))).trans (HB3.out.block M HE.out.2.1.lt))) _ _ rfl HK.out ?_; intro c2 hat2 hwc; rw [HH.out]; clear hat2 hwc) | (go_at_call 62; refine (HAL.out _ (HE.out.1.trans (((HB3.out.trans (HB4.out.mono HB3.out.size)).alloc (Nat.le_trans HB3.out.size HB4.out.size) _).mono HE.out.1.size))).mono ?_; rintro e7 w7 ⟨v7, rfl, hR7, hB7⟩; obtain ⟨A7, c7, rfl, -, -⟩ := Kd.R_reads hR7; have HR7 := Aside0.mk hR7; have HB7 := Aside0.mk ((HB3.out.trans (HB4.out.mono HB3.out.size)).alloc (Nat.le_trans HB3.out.size HB4.out.size) (.cells #[.int .u8 (97 + place)] 5) |>.trans (hB7.mono (Nat.le_trans (Nat.le_trans HB3.out.size HB4.out.size) (by simp)))); have HX7 := Aside0.mk (blk_below (blk_alloc HX4.out _) hB7); clear hR7 hB7 hc40 hc41 hc42 hc43 hc40a hc41a hc42a hc43a))
      have HMW := Aside0.mk HE.out.2.1.lt
      have HR7' := Aside0.mk (show Kd.R (Kd.int .u8) 5 w7 w.heap.size (fun _ => True) (.slice A7 al.length c7) al from Kd.R_lower HR7.out (by have h1 := HB3.out.size; have h2 := HB4.out.size; simp; omega))
      have HB07 := Aside0.mk (show Below w0.heap.size w0 w7 from HE.out.1.trans (HB7.out.mono HE.out.1.size))
      have HX7' := Aside0.mk (show w7.heap[B3]? = some (.cells #[.string p, .string b, .slice A l.length c, .map (some M)] 59 (0, 0)) from HX7.out)
      have HK7 := Aside0.mk (KeepM.of_below (M := M) HB7.out)
      have HO7 := Aside0.mk (show OwnM M n D w7 from owns_move_ HE.out.2.1 (HB7.out.block M HMW.out))
      have HMO := Aside0.mk HE.out.2.2
      clear HR7 HX7 HX3 HB3 HX4 HB4 HE HB7
      go_loopg [11, 45] al.length (fun dd v11 v45 w' => ∃ (j : Nat) (acc : Int) (n' : Nat) (D' : DataW Unit), v11 = .int .i64 acc ∧ v45 = .int .i64 (j : Int) ∧ Aside0 (j + dd = al.length) ∧ Aside0 ((Lit.int .i64 acc).wf = true) ∧ Aside0 (sumS (fun nx => if place + 1 = (p.size : Int) then some 1 else fromE k p b l d (place + 1) (tl l nx)) (fun nx => impl_Scheme_wordsIn.f k p b l nx) e (al.drop j) acc = some r) ∧ Aside0 (OwnM M n' D' w' ∧ n' ≤ n + j * upN d ∧ MemoOk k p b l D') ∧ Aside0 (Below w0.heap.size w0 w') ∧ Aside0 (KeepM M w7 w'))
      case atStart => exact ⟨0, 0, n, D, rfl, rfl, ⟨by omega⟩, ⟨by decide⟩, ⟨by rw [List.drop_zero]; exact HS.out⟩, ⟨HO7.out, by omega, HMO.out⟩, HB07, ⟨KeepM.refl M w7⟩⟩
      case round =>
        clear HO7 HMO HB07 HS
        obtain ⟨j, acc, n', D', rfl, rfl, HJ, HWF, HS, HO, HB, HKM⟩ := hrel
        have HX := Aside0.mk (show wr.heap[B3]? = some (.cells #[.string p, .string b, .slice A l.length c, .map (some M)] 59 (0, 0)) from (HKM.out.2 B3 (blk_lt HX7'.out) (by have := HG3.out; have := HMW.out; omega)).trans HX7'.out)
        have hc0 : wr.cell? ⟨B3, 0, none⟩ = some (.string p) := (blk_cell HX.out 0).trans rfl
        have hc1 : wr.cell? ⟨B3, 1, none⟩ = some (.string b) := (blk_cell HX.out 1).trans rfl
        have hc2_ : wr.cell? ⟨B3, 2, none⟩ = some (.slice A l.length c) := (blk_cell HX.out 2).trans rfl
        have hc3 : wr.cell? ⟨B3, 3, none⟩ = some (.map (some M)) := (blk_cell HX.out 3).trans rfl
        cases gk with
        | zero =>
          have hjl : ¬ (j : Int) < (al.length : Int) := by have := HJ.out; omega
          have hacc : acc = r := by
            have h := HS.out
            rw [List.drop_of_length_le (by have := HJ.out; omega)] at h
            exact Option.some.inj h
          subst hacc
          go_wp2_with (at_mapUpdate; refine wpList_mapUpdate_own _ rfl _ _ _ 57 rfl 9 3 strK Tryd.underlying57 _ M n' D' rfl HO.out.1 (by have h1 := HO.out.2.1; have h2 := HN.out; have h3 := HJ.out; have h4 := HL.out.1; have h5 : j * upN d ≤ 36 * upN d := Nat.mul_le_mul_right _ (by omega); simp only [upN] at h2; unfold maxLen; omega) _ _ _ rfl rfl HK.out _ [] (plainElem_int Tryd.underlying3 HWF.out) ?_; intro w9 hown9 hgrow9; have HO9 := Aside0.mk hown9; have HG9 := Aside0.mk hgrow9; clear hown9 hgrow9)
          go_ret
          have hm9 := memo_put (d0 := d + 1) hp HO.out.1.isMap HO.out.2.2 HD.out hp0 HF.out
          rw [HKE.out] at hm9
          exact ⟨rfl, n' + 1, _, HO9.out, by have h1 := HO.out.2.1; have h3 := HJ.out; have h4 := HL.out.1; have h5 : j * upN d ≤ 36 * upN d := Nat.mul_le_mul_right _ (by omega); simp only [upN]; omega, hm9, HB.out.grown HG9.out HB.out.size (fun kb hk => by cases hk; exact HM0.out), (HK7.out.trans HKM.out).trans (KeepM.of_grown HG9.out)⟩
        | succ dd =>
          have hj : j < al.length := by have := HJ.out; omega
          have hji : (j : Int) < (al.length : Int) := by omega
          have hj0 : 0 ≤ (j : Int) := by omega
          obtain ⟨ad, e1, hx0⟩ := Kd.at_int (Kd.R_reads' (R_keepM HR7'.out HMW.out HKM.out)).2.2 (j : Int) hj0 hji
          cases e1
          rw [Int.toNat_natCast] at hx0
          obtain ⟨x, hx⟩ : ∃ x, rd al (j : Int) = x := ⟨_, rfl⟩
          have hxe : al[j] = x := by rw [← hx]; simp [rd, hj]
          obtain ⟨x0, x1⟩ : 0 ≤ x ∧ x < 256 := by rw [← hxe]; exact HL.out.2 _ (List.getElem_mem hj)
          rw [hx] at hx0
          obtain ⟨z2, hz2⟩ : ∃ z2, strOfNums [x] = z2 := ⟨_, rfl⟩
          have hzs2 : z2.size = 1 := by rw [← hz2]; simp [strOfNums, ByteArray.size]
          have hcv2 : ∀ W : World, (convert 69 9 (.slice (some ⟨W.heap.size, 0, none⟩) 1 1)).run Tryd.prog (W.alloc (.cells #[.int .u8 x] 5)) = .ok (.string z2) (W.alloc (.cells #[.int .u8 x] 5)) := fun W => by rw [← hz2]; exact conv_one W _ x0 x1
          have hS := HS.out
          rw [List.drop_eq_getElem_cons hj, hxe] at hS
          simp only [sumS] at hS
          rw [hz2] at hS
          replace hS := Option.bind_eq_some_iff.mp hS
          obtain ⟨is, his, hS⟩ := hS
          have hes2 : (e ++ z2).size ≤ 5 := by rw [ByteArray.size_append]; omega
          have HES2 := Aside0.mk hes2
          have HWI := Aside0.mk (fun W hW => HWD.out W hW (e ++ z2) is his)
          have hc0a : ∀ o, (wr.alloc o).cell? ⟨B3, 0, none⟩ = some (.string p) := fun o => (blk_cell (blk_alloc HX.out o) 0).trans rfl
          have hc1a : ∀ o, (wr.alloc o).cell? ⟨B3, 1, none⟩ = some (.string b) := fun o => (blk_cell (blk_alloc HX.out o) 1).trans rfl
          have hc2a : ∀ o, (wr.alloc o).cell? ⟨B3, 2, none⟩ = some (.slice A l.length c) := fun o => (blk_cell (blk_alloc HX.out o) 2).trans rfl
          clear hx hxe hz2 his hes2 hc0 hc1 hc2_ hc3
          by_cases hz : is.length = 0
          · rw [if_pos hz] at hS
            replace hS := Option.bind_eq_some_iff.mp hS
            obtain ⟨v, hv, hS⟩ := hS
            have HS2 := Aside0.mk hS
            have HV := Aside0.mk hv
            clear hS hv HS
            have hzb : ((is.length : Int) == 0) = true := by rw [hz]; rfl
            have HZ := Aside0.mk hz
            clear hz
            go_wp2_with (first | (go_at_call 57; refine (HWI.out _ (HB.out.alloc HB.out.size _)).mono ?_; rintro e8 w8 ⟨v8, rfl, hR8, hB8⟩; obtain ⟨A8, c8, rfl⟩ := Kd.R_slice hR8; have HB8 := Aside0.mk (((Below.refl wr.heap.size wr).alloc (Nat.le_refl _) (.cells #[.int .u8 x] 5)).trans (hB8.mono (by simp))); have HX8 := Aside0.mk (blk_below (blk_alloc HX.out _) hB8); have hc80 := (blk_cell HX8.out 0).trans rfl; have hc81 := (blk_cell HX8.out 1).trans rfl; have hc82 := (blk_cell HX8.out 2).trans rfl; have hc83 := (blk_cell HX8.out 3).trans rfl; clear hR8 hB8) | (go_at_call 47; refine (HIH.out (place + 1) (e ++ z2) v w8 n' D' (by have := HD.out; omega) (by omega) HES2.out HV.out (HB.out.trans (HB8.out.mono HB.out.size)) (owns_move_ HO.out.1 (HB8.out.block M HO.out.1.lt)) HO.out.2.2 (by have h1 := HO.out.2.1; have h2 := HN.out; have h3 := HJ.out; have h4 := HL.out.1; have h5 : j * upN d + upN d ≤ 36 * upN d := (by rw [← Nat.succ_mul]; exact Nat.mul_le_mul_right _ (by omega)); simp only [upN] at h2; omega)).mono ?_; rintro e9 w9 ⟨rfl, n2, D2, q1, q2, q3, q4, q5⟩; have HQ := Aside0.mk (And.intro q1 (And.intro q2 (And.intro q3 (And.intro q4 q5)))); clear q1 q2 q3 q4 q5))
            go_roundg dd
            case measure => omega
            case rel => exact ⟨j + 1, wrap64 (acc + v), n2, D2, rfl, by rw [show wrap64 ((j : Int) + 1) = ((j + 1 : Nat) : Int) by have := HL.out.1; unfold wrap64; omega], ⟨by have := HJ.out; omega⟩, ⟨wrap64_wf _⟩, HS2, ⟨HQ.out.1, by have h1 := HO.out.2.1; have h2 := HQ.out.2.1; rw [Nat.succ_mul]; omega, HQ.out.2.2.1⟩, ⟨HQ.out.2.2.2.1⟩, ⟨HKM.out.trans ((KeepM.of_below HB8.out).trans HQ.out.2.2.2.2)⟩⟩
          · rw [if_neg hz] at hS
            have HS2 := Aside0.mk hS
            clear hS HS
            have hzb : ((is.length : Int) == 0) = false := by rw [beq_eq_false_iff_ne]; omega
            clear hz
            go_wp2_with (first | (go_at_call 57; refine (HWI.out _ (HB.out.alloc HB.out.size _)).mono ?_; rintro e8 w8 ⟨v8, rfl, hR8, hB8⟩; obtain ⟨A8, c8, rfl⟩ := Kd.R_slice hR8; have HB8 := Aside0.mk (((Below.refl wr.heap.size wr).alloc (Nat.le_refl _) (.cells #[.int .u8 x] 5)).trans (hB8.mono (by simp))); have HX8 := Aside0.mk (blk_below (blk_alloc HX.out _) hB8); have hc80 := (blk_cell HX8.out 0).trans rfl; have hc81 := (blk_cell HX8.out 1).trans rfl; have hc82 := (blk_cell HX8.out 2).trans rfl; have hc83 := (blk_cell HX8.out 3).trans rfl; clear hR8 hB8))
            go_roundg dd
            case measure => omega
            case rel => exact ⟨j + 1, acc, n', D', rfl, by rw [show wrap64 ((j : Int) + 1) = ((j + 1 : Nat) : Int) by have := HL.out.1; unfold wrap64; omega], ⟨by have := HJ.out; omega⟩, HWF, HS2, ⟨owns_move_ HO.out.1 (HB8.out.block M HO.out.1.lt), by have h1 := HO.out.2.1; rw [Nat.succ_mul]; omega, HO.out.2.2⟩, ⟨HB.out.trans (HB8.out.mono HB.out.size)⟩, ⟨HKM.out.trans (KeepM.of_below HB8.out)⟩⟩
set_option maxHeartbeats 8000000 in
set_option maxRecDepth 100000 in
theorem counterOf_calls (p b : ByteArray) (A : Option Addr) (c : Nat) (l : List ByteArray) (w : World) :
    Calls Tryd.prog 46 #[.agg #[.string p, .string b, .slice A l.length c]] w fun e w' => ∃ M, e = .returned (.agg #[.string p, .string b, .slice A l.length c, .map (some M)]) ∧ w.heap.size ≤ M ∧ OwnM M 0 (.map []) w' ∧ Below w.heap.size w w' := by
  have hmm := fun W : World => run_makeMap (P := Tryd.prog) 57 W
  go_enter Tryd.func46, Tryd.ntmps46
  go_wp2_with ((with_reducible refine gate_dst (N := 1) rfl ?_); refine box_event ?hg (N := 1) ?hd (cs := #[.string p, .string b, .slice A l.length c]) (t := 28) ?hr ?_; (case hd => rfl); (case hg => rfl); (case hr => first | (go_simp; done) | (go_simp; rfl)); intro B3 hg3 w3 hx3 hb3; have HG3 := Aside0.mk hg3; have HX3 := Aside0.mk hx3; have HB3 := Aside0.mk hb3; have hc30 := (blk_cell hx3 0).trans rfl; have hc31 := (blk_cell hx3 1).trans rfl; have hc32 := (blk_cell hx3 2).trans rfl; have hc30a : ∀ o, (w3.alloc o).cell? ⟨B3, 0, none⟩ = some (.string p) := (fun o => (blk_cell (blk_alloc HX3.out o) 0).trans rfl); have hc31a : ∀ o, (w3.alloc o).cell? ⟨B3, 1, none⟩ = some (.string b) := (fun o => (blk_cell (blk_alloc HX3.out o) 1).trans rfl); have hc32a : ∀ o, (w3.alloc o).cell? ⟨B3, 2, none⟩ = some (.slice A l.length c) := (fun o => (blk_cell (blk_alloc HX3.out o) 2).trans rfl); clear hx3 hb3 hg3)
  refine bodyPost_ret (results_cell_row rfl _ _ w3.heap.size 59 #[.string p, .string b, .slice A l.length c, .map (some (w3.heap.size + 1))] (0, 0) _ rfl (by refine blk_alloc ?_ _; exact heap_alloc_last w3 _) Tryd.underlying59 rfl (by kernel_rfl)) rfl ?_
  have hB := HB3.out
  exact ⟨w3.heap.size + 1, rfl, Nat.le_trans hB.size (Nat.le_succ _), by have h := World.ownsMap_made (H := Unit) (w3.alloc (.cells #[.string p, .string b, .slice A l.length c, .map (some (w3.heap.size + 1))] 59)) Tryd.prog 9 (plainElem (H := Unit) Tryd.prog 3); rwa [show (w3.alloc (.cells #[.string p, .string b, .slice A l.length c, .map (some (w3.heap.size + 1))] 59)).heap.size = w3.heap.size + 1 by simp] at h, (hB.alloc hB.size _).alloc (by simp; exact Nat.le_trans hB.size (Nat.le_succ _)) _⟩
def impl_CountPlates.f (k : Nat) (p b : ByteArray) (ws : List ByteArray) : Option (Int × Bool) := (impl_IsScheme.f p b ws).bind fun t => if t = true then (if p.size ≤ 8 ∧ ws.length ≤ 1048576 then (fromF k p b ws p.size 0 (⟨#[]⟩ : ByteArray)).bind fun n => some (n, true) else none) else some (0, false)
set_option maxHeartbeats 8000000 in
set_option maxRecDepth 100000 in
theorem impl_CountPlates.calls (k : Nat) (a0_0 : ByteArray) (a0_1 : ByteArray) (A0_2 : Option Addr) (c0_2 : Nat) (l0_2 : List ByteArray) (r1 : Int) (r2 : Bool) (w : World) (hr0_2 : Kd.C Kd.string w A0_2 l0_2.length l0_2) (hc0_2 : l0_2.length ≤ c0_2) (h : impl_CountPlates.f k a0_0 a0_1 l0_2 = some (r1, r2)) (henv : EnvT w) :
    Calls Tryd.prog 20 #[.agg #[.string a0_0, .string a0_1, .slice A0_2 l0_2.length c0_2]] w fun e w' => e = .returned (.tuple #[.int .i64 r1, .bool r2]) ∧ Below w.heap.size w w' := by
  unfold impl_CountPlates.f at h
  replace h := Option.bind_eq_some_iff.mp h
  obtain ⟨t, ht, h⟩ := h
  have HIS := Aside0.mk (fun (W : World) (hW : Below w.heap.size w W) => impl_IsScheme.calls a0_0 a0_1 A0_2 c0_2 l0_2 t W (Kd.C_below hr0_2 hW) hc0_2 ht)
  clear ht
  cases t with
  | false =>
    simp at h
    obtain ⟨rfl, rfl⟩ := h
    clear hr0_2 hc0_2 henv
    go_enter Tryd.func20, Tryd.ntmps20
    go_wp2_with (first | ((with_reducible refine gate_dst (N := 1) rfl ?_); refine box_event ?hg (N := 1) ?hd (cs := #[.string a0_0, .string a0_1, .slice A0_2 l0_2.length c0_2]) (t := 28) ?hr ?_; (case hd => rfl); (case hg => rfl); (case hr => first | (go_simp; done) | (go_simp; rfl)); intro B3 hg3 w3 hx3 hb3; have HX3 := Aside0.mk hx3; have HB3 := Aside0.mk hb3; have hc30 := (blk_cell hx3 0).trans rfl; have hc31 := (blk_cell hx3 1).trans rfl; have hc32 := (blk_cell hx3 2).trans rfl; clear hx3 hb3 hg3) | (go_at_call 22; refine (HIS.out _ HB3.out).mono ?_; rintro e4 w4 ⟨rfl, hb4⟩; have HB4 := Aside0.mk (HB3.out.trans (hb4.mono HB3.out.size)); clear hb4))
    go_ret2
    exact ⟨rfl, HB4.out⟩
  | true =>
    rw [if_pos rfl] at h
    by_cases hc : a0_0.size ≤ 8 ∧ l0_2.length ≤ 1048576
    case neg => rw [if_neg hc] at h; cases h
    rw [if_pos hc] at h
    replace h := Option.bind_eq_some_iff.mp h
    obtain ⟨n, hn, h⟩ := h
    have h := Option.some.inj h
    rw [Prod.mk.injEq] at h
    obtain ⟨rfl, rfl⟩ := h
    have HFR := Aside0.mk (fun (M : Nat) (hM : w.heap.size ≤ M) (W : World) (hW : Below w.heap.size w W) (hO : OwnM M 0 (.map []) W) => from_calls k a0_0 a0_1 A0_2 c0_2 l0_2 M w (by omega) hc.2 hc0_2 hr0_2 henv hM a0_0.size 0 (⟨#[]⟩ : ByteArray) n W 0 (.map []) (by omega) (by omega) (by decide) hn hW hO (fun _ _ _ _ _ _ _ hh => by cases hh) (by
      have : ∀ q : Nat, q ≤ 8 → 0 + upN q < 9000000000000000000 := by decide
      exact this _ hc.1))
    clear hr0_2 hc0_2 henv hn hc
    go_enter Tryd.func20, Tryd.ntmps20
    go_wp2_with (first | ((with_reducible refine gate_dst (N := 1) rfl ?_); refine box_event ?hg (N := 1) ?hd (cs := #[.string a0_0, .string a0_1, .slice A0_2 l0_2.length c0_2]) (t := 28) ?hr ?_; (case hd => rfl); (case hg => rfl); (case hr => first | (go_simp; done) | (go_simp; rfl)); intro B3 hg3 w3 hx3 hb3; have HX3 := Aside0.mk hx3; have HB3 := Aside0.mk hb3; have hc30 := (blk_cell hx3 0).trans rfl; have hc31 := (blk_cell hx3 1).trans rfl; have hc32 := (blk_cell hx3 2).trans rfl; clear hx3 hb3 hg3) | (go_at_call 22; refine (HIS.out _ HB3.out).mono ?_; rintro e4 w4 ⟨rfl, hb4⟩; have HX4 := Aside0.mk (blk_below HX3.out hb4); have HB4 := Aside0.mk (HB3.out.trans (hb4.mono HB3.out.size)); have hc40 := (blk_cell HX4.out 0).trans rfl; have hc41 := (blk_cell HX4.out 1).trans rfl; have hc42 := (blk_cell HX4.out 2).trans rfl; clear hb4 hc30 hc31 hc32) | (go_at_call 46; refine (counterOf_calls a0_0 a0_1 A0_2 c0_2 l0_2 _).mono ?_; rintro e5 w5 ⟨M, rfl, hM5, hO5, hb5⟩; have HO5 := Aside0.mk hO5; have HM5 := Aside0.mk (Nat.le_trans HB4.out.size hM5); have HB5 := Aside0.mk (HB4.out.trans (hb5.mono HB4.out.size)); clear hM5 hO5 hb5) | (go_at_call 47; refine (HFR.out M HM5.out _ HB5.out HO5.out).mono ?_; rintro e6 w6 ⟨rfl, n6, D6, -, -, -, hb6, -⟩; have HB6 := Aside0.mk hb6; clear hb6))
    go_ret2
    exact ⟨rfl, HB6.out⟩
theorem sumS_mono {F F' : ByteArray → Option Int} {G G' : ByteArray → Option (List Int)} (e : ByteArray) (hF : ∀ t, LeO (F t) (F' t)) (hG : ∀ t, LeO (G t) (G' t)) : ∀ (l : List Int) (acc : Int), LeO (sumS F G e l acc) (sumS F' G' e l acc)
  | [], _ => LeO.refl _
  | c :: r, acc => LeO.bind (hG _) (fun is => LeO.ite (LeO.bind (hF _) (fun v => sumS_mono e hF hG r _)) (sumS_mono e hF hG r acc))
theorem fromE_mono (k : Nat) (p b : ByteArray) (ws : List ByteArray) : ∀ (d : Nat) (place : Int) (e : ByteArray), LeO (fromE k p b ws d place e) (fromE (k + 1) p b ws d place e)
  | 0, _, _ => LeO.refl _
  | d + 1, place, e => LeO.bind (impl_Scheme_allowed.mono _ _ _ _ _) (fun al => LeO.ite (sumS_mono e (fun nx => LeO.ite (LeO.refl _) (fromE_mono k p b ws d (place + 1) (tl ws nx))) (fun nx => impl_Scheme_wordsIn.mono _ _ _ _ _) al 0) (LeO.none _))
theorem impl_CountPlates.mono : ∀ a0_0 a0_1 l0_2 k, LeO (impl_CountPlates.f k a0_0 a0_1 l0_2) (impl_CountPlates.f (k + 1) a0_0 a0_1 l0_2) := by
  intro p b ws k
  unfold impl_CountPlates.f fromF
  exact LeO.bind (LeO.refl _) (fun t => LeO.ite (LeO.ite (LeO.bind (LeO.ite (LeO.refl _) (fromE_mono k p b ws _ _ _)) (fun n => LeO.refl _)) (LeO.refl _)) (LeO.refl _))

/-! ### laws_FnExactCountPlates: function 5 -/
def laws_FnExactCountPlates.j0 : Nat → Bool → ByteArray → ByteArray → List ByteArray → ByteArray → ByteArray → List ByteArray → Option (Bool)
  | 0, _, _, _, _, _, _, _ => none
  | k + 1, x34, x167000, x167001, x167002, x181000, x181001, x181002 => if x34 = true then (some false) else ((laws_toScheme.f k x167000 x167001 x167002).bind fun bt183 => ((laws_eqScheme.f k x181000 x181001 x181002 bt183.1 bt183.2.1 bt183.2.2).bind fun t188 => (if t188 = true then (some true) else (some false))))
def laws_FnExactCountPlates.f (k : Nat) (a0_0 : ByteArray) (a0_1 : ByteArray) (l0_2 : List ByteArray) : Option (Bool) := (laws_szScheme.f k a0_0 a0_1 l0_2 1048576).bind fun t167 => (if t167 < 0 then (some true) else ((laws_toScheme.f k a0_0 a0_1 l0_2).bind fun bt168 => ((spec_CountPlates.f k bt168.1 bt168.2.1 bt168.2.2).bind fun bt173 => ((laws_toScheme.f k a0_0 a0_1 l0_2).bind fun bt175 => ((impl_CountPlates.f k bt175.1 bt175.2.1 bt175.2.2).bind fun bt181 => (if bt181.1 = bt173.1 then (laws_FnExactCountPlates.j0 k (bt181.2 != bt173.2) a0_0 a0_1 l0_2 bt175.1 bt175.2.1 bt175.2.2) else (laws_FnExactCountPlates.j0 k true a0_0 a0_1 l0_2 bt175.1 bt175.2.1 bt175.2.2)))))))
theorem laws_FnExactCountPlates.mono_l : ∀ k, (∀ y0 y1 y2 y3 y4 y5 y6, LeO (laws_FnExactCountPlates.j0 k y0 y1 y2 y3 y4 y5 y6) (laws_FnExactCountPlates.j0 (k + 1) y0 y1 y2 y3 y4 y5 y6))
  | 0 => fun _ _ _ _ _ _ _ r h => by simp [laws_FnExactCountPlates.j0] at h
  | k + 1 => by
    have ih0 := laws_FnExactCountPlates.mono_l k
    · intro y0 y1 y2 y3 y4 y5 y6
      unfold laws_FnExactCountPlates.j0
      repeat' first
      | (with_reducible exact ih0 _ _ _ _ _ _ _)
      | (with_reducible exact impl_CountPlates.mono _ _ _ _)
      | (with_reducible exact laws_eqScheme.mono _ _ _ _ _ _ _)
      | (with_reducible exact laws_szScheme.mono _ _ _ _ _)
      | (with_reducible exact laws_toScheme.mono _ _ _ _)
      | (with_reducible exact spec_CountPlates.mono _ _ _ _)
      | (with_reducible exact LeO.refl _)
      | (with_reducible exact LeO.none _)
      | (with_reducible refine LeO.ite ?_ ?_)
      | (with_reducible refine LeO.bind ?_ (fun _ => ?_))
      | exact ih0 _ _ _ _ _ _ _
      | exact impl_CountPlates.mono _ _ _ _
      | exact laws_eqScheme.mono _ _ _ _ _ _ _
      | exact laws_szScheme.mono _ _ _ _ _
      | exact laws_toScheme.mono _ _ _ _
      | exact spec_CountPlates.mono _ _ _ _
      | exact LeO.none _
      | refine LeO.ite ?_ ?_
      | refine LeO.bind ?_ (fun _ => ?_)
theorem laws_FnExactCountPlates.mono : ∀ a0 a1 a2 k, LeO (laws_FnExactCountPlates.f k a0 a1 a2) (laws_FnExactCountPlates.f (k + 1) a0 a1 a2) := by
  intro a0 a1 a2 k
  have ih0 := laws_FnExactCountPlates.mono_l k
  unfold laws_FnExactCountPlates.f
  repeat' first
      | (with_reducible exact ih0 _ _ _ _ _ _ _)
      | (with_reducible exact impl_CountPlates.mono _ _ _ _)
      | (with_reducible exact laws_eqScheme.mono _ _ _ _ _ _ _)
      | (with_reducible exact laws_szScheme.mono _ _ _ _ _)
      | (with_reducible exact laws_toScheme.mono _ _ _ _)
      | (with_reducible exact spec_CountPlates.mono _ _ _ _)
      | (with_reducible exact LeO.refl _)
      | (with_reducible exact LeO.none _)
      | (with_reducible refine LeO.ite ?_ ?_)
      | (with_reducible refine LeO.bind ?_ (fun _ => ?_))
      | exact ih0 _ _ _ _ _ _ _
      | exact impl_CountPlates.mono _ _ _ _
      | exact laws_eqScheme.mono _ _ _ _ _ _ _
      | exact laws_szScheme.mono _ _ _ _ _
      | exact laws_toScheme.mono _ _ _ _
      | exact spec_CountPlates.mono _ _ _ _
      | exact LeO.none _
      | refine LeO.ite ?_ ?_
      | refine LeO.bind ?_ (fun _ => ?_)
set_option maxHeartbeats 8000000 in
set_option maxRecDepth 100000 in
theorem laws_FnExactCountPlates.calls (k : Nat) (a0_0 : ByteArray) (a0_1 : ByteArray) (A0_2 : Option Addr) (c0_2 : Nat) (l0_2 : List ByteArray) (r : Bool) (w : World) (hr0_2 : Kd.C Kd.string w A0_2 l0_2.length l0_2) (hc0_2 : l0_2.length ≤ c0_2) (h : laws_FnExactCountPlates.f k a0_0 a0_1 l0_2 = some r) (henv : EnvT w) :
    Calls Tryd.prog 5 #[.agg #[.string a0_0, .string a0_1, .slice A0_2 l0_2.length c0_2]] w fun e w' => e = .returned (.bool r) ∧ Below w.heap.size w w' := by
  have HENV := Aside0.mk henv
  clear henv
  have hu24 := Tryd.underlying24
  have hu28 := Tryd.underlying28
  have HR0_2 := Aside0.mk hr0_2
  have HC0_2 := Aside0.mk hc0_2
  clear hr0_2 hc0_2
  have HB := Aside0.mk (Below.refl w.heap.size w)
  have H : ((laws_szScheme.f k a0_0 a0_1 l0_2 1048576).bind fun t167 => (if t167 < 0 then (some true) else ((laws_toScheme.f k a0_0 a0_1 l0_2).bind fun bt168 => ((spec_CountPlates.f k bt168.1 bt168.2.1 bt168.2.2).bind fun bt173 => ((laws_toScheme.f k a0_0 a0_1 l0_2).bind fun bt175 => ((impl_CountPlates.f k bt175.1 bt175.2.1 bt175.2.2).bind fun bt181 => (if bt181.1 = bt173.1 then (laws_FnExactCountPlates.j0 k (bt181.2 != bt173.2) a0_0 a0_1 l0_2 bt175.1 bt175.2.1 bt175.2.2) else (laws_FnExactCountPlates.j0 k true a0_0 a0_1 l0_2 bt175.1 bt175.2.1 bt175.2.2)))))))) = some r := h
  clear h
  replace H := Option.bind_eq_some_iff.mp H
  obtain ⟨t167, A20, H⟩ := H
  replace H : (if t167 < 0 then (some true) else ((laws_toScheme.f k a0_0 a0_1 l0_2).bind fun bt168 => ((spec_CountPlates.f k bt168.1 bt168.2.1 bt168.2.2).bind fun bt173 => ((laws_toScheme.f k a0_0 a0_1 l0_2).bind fun bt175 => ((impl_CountPlates.f k bt175.1 bt175.2.1 bt175.2.2).bind fun bt181 => (if bt181.1 = bt173.1 then (laws_FnExactCountPlates.j0 k (bt181.2 != bt173.2) a0_0 a0_1 l0_2 bt175.1 bt175.2.1 bt175.2.2) else (laws_FnExactCountPlates.j0 k true a0_0 a0_1 l0_2 bt175.1 bt175.2.1 bt175.2.2))))))) = some r := H
  have A2 := Aside0.mk A20
  clear A20
  by_cases c3 : t167 < 0
  · rw [if_pos c3] at H
    have c3b0 : decide (t167 < 0) = true := decide_eq_true c3
    clear c3
    obtain rfl := Option.some.inj H
    go_enter Tryd.func5, Tryd.ntmps5
    go_wp2_with (first | ((with_reducible refine gate_dst (N := 1) rfl ?_); refine box_event ?hg (N := 1) ?hd (cs := #[.string a0_0, .string a0_1, .slice A0_2 l0_2.length c0_2]) (t := 24) ?hr ?_; (case hd => rfl); (case hg => rfl); (case hr => first | (go_simp; done) | (go_simp; rfl)); intro gb166 hg w4 hbox hb; have n0_ := Aside0.mk (below_step (by repeat (first | (with_reducible first | exact HB.out | apply below_alloc | apply pw_below_drewN | apply below_drew1) | exact HB.out)) hb); have n1_ := Aside0.mk (hbox); have n2_ := Aside0.mk ((by rw [hg]; exact (below_size (by repeat (first | (with_reducible first | exact HB.out | apply below_alloc | apply pw_below_drewN | apply below_drew1) | exact HB.out))) : w.heap.size ≤ gb166)); have n3_ := Aside0.mk ((by rw [hg]; exact (below_size (by repeat (first | (with_reducible first | exact HB.out | apply below_alloc | apply pw_below_drewN | apply below_drew1) | exact HB.out))) : w.heap.size ≤ gb166)); clear HB; have HB := n0_; have BK166 := n1_; have GW166 := n2_; have GE166 := n3_; clear n0_ n1_ n2_ n3_; clear hb hbox hg; have hcz5_0 : w4.cell? ⟨gb166, 0, none⟩ = some (.string a0_0) := (blk_cell BK166.out 0).trans rfl; have hcz5_1 : w4.cell? ⟨gb166, 1, none⟩ = some (.string a0_1) := (blk_cell BK166.out 1).trans rfl; have hcz5_2 : w4.cell? ⟨gb166, 2, none⟩ = some (.slice A0_2 l0_2.length c0_2) := (blk_cell BK166.out 2).trans rfl; have hfz5_0 := blk_frozen BK166.out 0; have hfz5_1 := blk_frozen BK166.out 1; have hfz5_2 := blk_frozen BK166.out 2) | ((with_reducible refine gate_callee (f := 10) rfl ?_); refine goesL_ (some 11) rfl rfl Tryd.func10 (by kernel_rfl) rfl #[.agg #[.string a0_0, .string a0_1, .slice A0_2 l0_2.length c0_2], .int .i64 1048576] rfl (by (try simp only [List.map_toArray, List.map_cons, List.map_nil]); first | done | rfl | (simp only [List.length_drop, List.length_take]; rfl)) ?_; (with_reducible refine (laws_szScheme.calls k a0_0 a0_1 _ _ l0_2 1048576 t167 _ ?side1 ?side2 A2.out).mono ?_); (case side1 => repeat (first | exact (Kd.C_below HR0_2.out HB.out) | (with_reducible refine Kd.C_alloc ?_ _) | (with_reducible refine Kd.C_drewN ?_ _) | (with_reducible refine Kd.C_drew ?_))); (case side2 => exact HC0_2.out); rintro e w6 ⟨rfl, hb⟩; refine ⟨_, rfl, ?_⟩; have n0_ := Aside0.mk (blk_below (g := gb166) (o := .cells #[.string a0_0, .string a0_1, .slice A0_2 l0_2.length c0_2] 24 (0, 0)) (by (with_reducible repeat (first | refine blk_drewN ?_ _ | refine blk_drew ?_ | refine blk_alloc ?_ _)); exact BK166.out) hb); have n1_ := Aside0.mk (below_step (by repeat (first | (with_reducible first | exact HB.out | apply below_alloc | apply pw_below_drewN | apply below_drew1 | refine below_set ?_ GE166.out) | exact HB.out)) hb); clear BK166; clear HB; have BK166 := n0_; have HB := n1_; clear n0_ n1_; (try clear hb); (try clear hb2); (try clear hk); (try clear hi)))
    go_ret
    exact ⟨by first | rfl | (simp [errW_none, errW_some] <;> rfl) | (simp [*, errW_none, errW_some] <;> rfl), by repeat (first | (with_reducible first | exact HB.out | apply below_alloc | apply pw_below_drewN | apply below_drew1 | refine below_set ?_ GE166.out) | exact HB.out)⟩
  · rw [if_neg c3] at H
    have c3b0 : decide (t167 < 0) = false := decide_eq_false c3
    clear c3
    replace H := Option.bind_eq_some_iff.mp H
    obtain ⟨⟨t168, t169, t170⟩, A70, H⟩ := H
    replace H : ((spec_CountPlates.f k t168 t169 t170).bind fun bt173 => ((laws_toScheme.f k a0_0 a0_1 l0_2).bind fun bt175 => ((impl_CountPlates.f k bt175.1 bt175.2.1 bt175.2.2).bind fun bt181 => (if bt181.1 = bt173.1 then (laws_FnExactCountPlates.j0 k (bt181.2 != bt173.2) a0_0 a0_1 l0_2 bt175.1 bt175.2.1 bt175.2.2) else (laws_FnExactCountPlates.j0 k true a0_0 a0_1 l0_2 bt175.1 bt175.2.1 bt175.2.2))))) = some r := H
    have A7 := Aside0.mk A70
    clear A70
    replace H := Option.bind_eq_some_iff.mp H
    obtain ⟨⟨t173, t174⟩, A80, H⟩ := H
    replace H : ((laws_toScheme.f k a0_0 a0_1 l0_2).bind fun bt175 => ((impl_CountPlates.f k bt175.1 bt175.2.1 bt175.2.2).bind fun bt181 => (if bt181.1 = t173 then (laws_FnExactCountPlates.j0 k (bt181.2 != t174) a0_0 a0_1 l0_2 bt175.1 bt175.2.1 bt175.2.2) else (laws_FnExactCountPlates.j0 k true a0_0 a0_1 l0_2 bt175.1 bt175.2.1 bt175.2.2)))) = some r := H
    have A8 := Aside0.mk A80
    clear A80
    replace H := Option.bind_eq_some_iff.mp H
    obtain ⟨⟨t175, t176, t177⟩, A90, H⟩ := H
    replace H : ((impl_CountPlates.f k t175 t176 t177).bind fun bt181 => (if bt181.1 = t173 then (laws_FnExactCountPlates.j0 k (bt181.2 != t174) a0_0 a0_1 l0_2 t175 t176 t177) else (laws_FnExactCountPlates.j0 k true a0_0 a0_1 l0_2 t175 t176 t177))) = some r := H
    have A9 := Aside0.mk A90
    clear A90
    replace H := Option.bind_eq_some_iff.mp H
    obtain ⟨⟨t181, t182⟩, A100, H⟩ := H
    replace H : (if t181 = t173 then (laws_FnExactCountPlates.j0 k (t182 != t174) a0_0 a0_1 l0_2 t175 t176 t177) else (laws_FnExactCountPlates.j0 k true a0_0 a0_1 l0_2 t175 t176 t177)) = some r := H
    have A10 := Aside0.mk A100
    clear A100
    have HC11 := Aside0.mk H
    clear H
    go_enter Tryd.func5, Tryd.ntmps5
    go_upto_region 8 with (first | ((with_reducible refine gate_dst (N := 1) rfl ?_); refine box_event ?hg (N := 1) ?hd (cs := #[.string a0_0, .string a0_1, .slice A0_2 l0_2.length c0_2]) (t := 24) ?hr ?_; (case hd => rfl); (case hg => rfl); (case hr => first | (go_simp; done) | (go_simp; rfl)); intro gb166 hg w12 hbox hb; have n0_ := Aside0.mk (below_step (by repeat (first | (with_reducible first | exact HB.out | apply below_alloc | apply pw_below_drewN | apply below_drew1) | exact HB.out)) hb); have n1_ := Aside0.mk (hbox); have n2_ := Aside0.mk ((by rw [hg]; exact (below_size (by repeat (first | (with_reducible first | exact HB.out | apply below_alloc | apply pw_below_drewN | apply below_drew1) | exact HB.out))) : w.heap.size ≤ gb166)); have n3_ := Aside0.mk ((by rw [hg]; exact (below_size (by repeat (first | (with_reducible first | exact HB.out | apply below_alloc | apply pw_below_drewN | apply below_drew1) | exact HB.out))) : w.heap.size ≤ gb166)); clear HB; have HB := n0_; have BK166 := n1_; have GW166 := n2_; have GE166 := n3_; clear n0_ n1_ n2_ n3_; clear hb hbox hg; have hcz13_0 : w12.cell? ⟨gb166, 0, none⟩ = some (.string a0_0) := (blk_cell BK166.out 0).trans rfl; have hcz13_1 : w12.cell? ⟨gb166, 1, none⟩ = some (.string a0_1) := (blk_cell BK166.out 1).trans rfl; have hcz13_2 : w12.cell? ⟨gb166, 2, none⟩ = some (.slice A0_2 l0_2.length c0_2) := (blk_cell BK166.out 2).trans rfl; have hfz13_0 := blk_frozen BK166.out 0; have hfz13_1 := blk_frozen BK166.out 1; have hfz13_2 := blk_frozen BK166.out 2) | ((with_reducible refine gate_callee (f := 10) rfl ?_); refine goesL_ (some 11) rfl rfl Tryd.func10 (by kernel_rfl) rfl #[.agg #[.string a0_0, .string a0_1, .slice A0_2 l0_2.length c0_2], .int .i64 1048576] rfl (by (try simp only [List.map_toArray, List.map_cons, List.map_nil]); first | done | rfl | (simp only [List.length_drop, List.length_take]; rfl)) ?_; (with_reducible refine (laws_szScheme.calls k a0_0 a0_1 _ _ l0_2 1048576 t167 _ ?side1 ?side2 A2.out).mono ?_); (case side1 => repeat (first | exact (Kd.C_below HR0_2.out HB.out) | (with_reducible refine Kd.C_alloc ?_ _) | (with_reducible refine Kd.C_drewN ?_ _) | (with_reducible refine Kd.C_drew ?_))); (case side2 => exact HC0_2.out); rintro e w14 ⟨rfl, hb⟩; refine ⟨_, rfl, ?_⟩; have n0_ := Aside0.mk (blk_below (g := gb166) (o := .cells #[.string a0_0, .string a0_1, .slice A0_2 l0_2.length c0_2] 24 (0, 0)) (by (with_reducible repeat (first | refine blk_drewN ?_ _ | refine blk_drew ?_ | refine blk_alloc ?_ _)); exact BK166.out) hb); have n1_ := Aside0.mk (below_step (by repeat (first | (with_reducible first | exact HB.out | apply below_alloc | apply pw_below_drewN | apply below_drew1 | refine below_set ?_ GE166.out) | exact HB.out)) hb); clear BK166; clear HB; have BK166 := n0_; have HB := n1_; clear n0_ n1_; (try clear hb); (try clear hb2); (try clear hk); (try clear hi); have hcz15_0 : w14.cell? ⟨gb166, 0, none⟩ = some (.string a0_0) := (blk_cell BK166.out 0).trans rfl; have hcz15_1 : w14.cell? ⟨gb166, 1, none⟩ = some (.string a0_1) := (blk_cell BK166.out 1).trans rfl; have hcz15_2 : w14.cell? ⟨gb166, 2, none⟩ = some (.slice A0_2 l0_2.length c0_2) := (blk_cell BK166.out 2).trans rfl; have hfz15_0 := blk_frozen BK166.out 0; have hfz15_1 := blk_frozen BK166.out 1; have hfz15_2 := blk_frozen BK166.out 2) | ((with_reducible refine gate_callee (f := 12) rfl ?_); refine goesL_ (some 16) rfl rfl Tryd.func12 (by kernel_rfl) rfl #[.agg #[.string a0_0, .string a0_1, .slice A0_2 l0_2.length c0_2]] rfl (by (try simp only [List.map_toArray, List.map_cons, List.map_nil]); first | done | rfl | (simp only [List.length_drop, List.length_take]; rfl)) ?_; (with_reducible refine (laws_toScheme.calls k a0_0 a0_1 _ _ l0_2 t168 t169 t170 _ ?side1 ?side2 A7.out).mono ?_); (case side1 => repeat (first | exact (Kd.C_below HR0_2.out HB.out) | (with_reducible refine Kd.C_alloc ?_ _) | (with_reducible refine Kd.C_drewN ?_ _) | (with_reducible refine Kd.C_drew ?_))); (case side2 => exact HC0_2.out); rintro e w16 ⟨v171, rfl, ho0, hb⟩; refine ⟨_, rfl, ?_⟩; have n0_ := Aside0.mk (Kd.R_lower ho0 (below_size (by repeat (first | (with_reducible first | exact HB.out | apply below_alloc | apply pw_below_drewN | apply below_drew1 | refine below_set ?_ GE166.out) | exact HB.out)))); have n1_ := Aside0.mk (blk_below (g := gb166) (o := .cells #[.string a0_0, .string a0_1, .slice A0_2 l0_2.length c0_2] 24 (0, 0)) (by (with_reducible repeat (first | refine blk_drewN ?_ _ | refine blk_drew ?_ | refine blk_alloc ?_ _)); exact BK166.out) hb); have n2_ := Aside0.mk (below_step (by repeat (first | (with_reducible first | exact HB.out | apply below_alloc | apply pw_below_drewN | apply below_drew1 | refine below_set ?_ GE166.out) | exact HB.out)) hb); clear BK166; clear HB; have HO172 := n0_; have BK166 := n1_; have HB := n2_; clear n0_ n1_ n2_; (try clear hb); (try clear hb2); (try clear hk); (try clear hi); (try clear ho0); obtain ⟨Ao17, co17, eo17⟩ := Kd.R_slice HO172.out; subst eo17) | ((with_reducible refine gate_callee (f := 19) rfl ?_); refine goesL_ (some 17) rfl rfl Tryd.func19 (by kernel_rfl) rfl #[.agg #[.string t168, .string t169, .slice Ao17 t170.length co17]] rfl (by (try simp only [List.map_toArray, List.map_cons, List.map_nil]); first | done | rfl | (simp only [List.length_drop, List.length_take]; rfl)) ?_; (with_reducible refine (spec_CountPlates.calls k t168 t169 _ _ t170 t173 t174 _ ?side1 ?side2 A8.out).mono ?_); (case side1 => repeat (first | exact (Kd.R_reads' HO172.out).2.2 | (with_reducible refine Kd.C_alloc ?_ _) | (with_reducible refine Kd.C_drewN ?_ _) | (with_reducible refine Kd.C_drew ?_))); (case side2 => exact (Kd.R_reads' HO172.out).2.1); rintro e w18 ⟨rfl, hb⟩; refine ⟨_, rfl, ?_⟩; have n0_ := Aside0.mk (Kd.R_below (by (with_reducible repeat (first | apply Kd.R_alloc | apply Kd.R_drewN | apply Kd.R_drew)); exact HO172.out) hb); have n1_ := Aside0.mk (blk_below (g := gb166) (o := .cells #[.string a0_0, .string a0_1, .slice A0_2 l0_2.length c0_2] 24 (0, 0)) (by (with_reducible repeat (first | refine blk_drewN ?_ _ | refine blk_drew ?_ | refine blk_alloc ?_ _)); exact BK166.out) hb); have n2_ := Aside0.mk (below_step (by repeat (first | (with_reducible first | exact HB.out | apply below_alloc | apply pw_below_drewN | apply below_drew1 | refine below_set ?_ GE166.out) | exact HB.out)) hb); clear HO172; clear BK166; clear HB; have HO172 := n0_; have BK166 := n1_; have HB := n2_; clear n0_ n1_ n2_; (try clear hb); (try clear hb2); (try clear hk); (try clear hi); have hcz19_0 : w18.cell? ⟨gb166, 0, none⟩ = some (.string a0_0) := (blk_cell BK166.out 0).trans rfl; have hcz19_1 : w18.cell? ⟨gb166, 1, none⟩ = some (.string a0_1) := (blk_cell BK166.out 1).trans rfl; have hcz19_2 : w18.cell? ⟨gb166, 2, none⟩ = some (.slice A0_2 l0_2.length c0_2) := (blk_cell BK166.out 2).trans rfl; have hfz19_0 := blk_frozen BK166.out 0; have hfz19_1 := blk_frozen BK166.out 1; have hfz19_2 := blk_frozen BK166.out 2) | ((with_reducible refine gate_callee (f := 12) rfl ?_); refine goesL_ (some 21) rfl rfl Tryd.func12 (by kernel_rfl) rfl #[.agg #[.string a0_0, .string a0_1, .slice A0_2 l0_2.length c0_2]] rfl (by (try simp only [List.map_toArray, List.map_cons, List.map_nil]); first | done | rfl | (simp only [List.length_drop, List.length_take]; rfl)) ?_; (with_reducible refine (laws_toScheme.calls k a0_0 a0_1 _ _ l0_2 t175 t176 t177 _ ?side1 ?side2 A9.out).mono ?_); (case side1 => repeat (first | exact (Kd.C_below HR0_2.out HB.out) | (with_reducible refine Kd.C_alloc ?_ _) | (with_reducible refine Kd.C_drewN ?_ _) | (with_reducible refine Kd.C_drew ?_))); (case side2 => exact HC0_2.out); rintro e w20 ⟨v178, rfl, ho0, hb⟩; refine ⟨_, rfl, ?_⟩; have n0_ := Aside0.mk (Kd.R_elder' (by (with_reducible repeat (first | apply Kd.R_alloc | apply Kd.R_drewN | apply Kd.R_drew)); exact HO172.out) (Kd.R_base ho0) hb); have n1_ := Aside0.mk (Kd.R_lower (Kd.R_new' ho0 (Kd.R_lt (by (with_reducible repeat (first | apply Kd.R_alloc | apply Kd.R_drewN | apply Kd.R_drew)); exact HO172.out))) (below_size (by repeat (first | (with_reducible first | exact HB.out | apply below_alloc | apply pw_below_drewN | apply below_drew1 | refine below_set ?_ GE166.out) | exact HB.out)))); have n2_ := Aside0.mk (blk_below (g := gb166) (o := .cells #[.string a0_0, .string a0_1, .slice A0_2 l0_2.length c0_2] 24 (0, 0)) (by (with_reducible repeat (first | refine blk_drewN ?_ _ | refine blk_drew ?_ | refine blk_alloc ?_ _)); exact BK166.out) hb); have n3_ := Aside0.mk (below_step (by repeat (first | (with_reducible first | exact HB.out | apply below_alloc | apply pw_below_drewN | apply below_drew1 | refine below_set ?_ GE166.out) | exact HB.out)) hb); clear HO172; clear BK166; clear HB; have HO172 := n0_; have HO179 := n1_; have BK166 := n2_; have HB := n3_; clear n0_ n1_ n2_ n3_; (try clear hb); (try clear hb2); (try clear hk); (try clear hi); (try clear ho0)) | ((with_reducible refine gate_dst (N := 6) rfl ?_); refine box_event ?hg (N := 6) ?hd (cs := #[.string (⟨#[]⟩ : ByteArray), .string (⟨#[]⟩ : ByteArray), .slice none 0 0]) (t := 28) ?hr ?_; (case hd => rfl); (case hg => rfl); (case hr => first | (go_simp; done) | (go_simp; rfl)); intro gb180 hg w21 hbox hb; have n0_ := Aside0.mk (Kd.R_below (by (with_reducible repeat (first | apply Kd.R_alloc | apply Kd.R_drewN | apply Kd.R_drew)); exact HO172.out) hb); have n1_ := Aside0.mk (Kd.R_below (by (with_reducible repeat (first | apply Kd.R_alloc | apply Kd.R_drewN | apply Kd.R_drew)); exact HO179.out) hb); have n2_ := Aside0.mk (blk_below (g := gb166) (o := .cells #[.string a0_0, .string a0_1, .slice A0_2 l0_2.length c0_2] 24 (0, 0)) (by (with_reducible repeat (first | refine blk_drewN ?_ _ | refine blk_drew ?_ | refine blk_alloc ?_ _)); exact BK166.out) hb); have n3_ := Aside0.mk (below_step (by repeat (first | (with_reducible first | exact HB.out | apply below_alloc | apply pw_below_drewN | apply below_drew1 | refine below_set ?_ GE166.out) | exact HB.out)) hb); have n4_ := Aside0.mk (hbox); have n5_ := Aside0.mk ((by rw [hg]; exact (below_size (by repeat (first | (with_reducible first | exact HB.out | apply below_alloc | apply pw_below_drewN | apply below_drew1 | refine below_set ?_ GE166.out) | exact HB.out))) : w.heap.size ≤ gb180)); have n6_ := Aside0.mk ((by rw [hg]; exact (below_size (by repeat (first | (with_reducible first | exact HB.out | apply below_alloc | apply pw_below_drewN | apply below_drew1 | refine below_set ?_ GE166.out) | exact HB.out))) : w.heap.size ≤ gb180)); have n7_ := Aside0.mk ((by rw [hg]; exact Nat.ne_of_lt (blk_lt (g := gb166) (o := .cells #[.string a0_0, .string a0_1, .slice A0_2 l0_2.length c0_2] 24 (0, 0)) (by (with_reducible repeat (first | refine blk_drewN ?_ _ | refine blk_drew ?_ | refine blk_alloc ?_ _)); exact BK166.out)) : gb166 ≠ gb180)); have n8_ := Aside0.mk ((by rw [hg]; exact Nat.ne_of_gt (blk_lt (g := gb166) (o := .cells #[.string a0_0, .string a0_1, .slice A0_2 l0_2.length c0_2] 24 (0, 0)) (by (with_reducible repeat (first | refine blk_drewN ?_ _ | refine blk_drew ?_ | refine blk_alloc ?_ _)); exact BK166.out)) : gb180 ≠ gb166)); clear HO172; clear HO179; clear BK166; clear HB; have HO172 := n0_; have HO179 := n1_; have BK166 := n2_; have HB := n3_; have BK180 := n4_; have GW180 := n5_; have GE180 := n6_; have NB166_180 := n7_; have NB180_166 := n8_; clear n0_ n1_ n2_ n3_ n4_ n5_ n6_ n7_ n8_; clear hb hbox hg; have hnb22 := NB180_166.out; have hnc22 := NB166_180.out; have hcz23_0 : w21.cell? ⟨gb180, 0, none⟩ = some (.string (⟨#[]⟩ : ByteArray)) := (blk_cell BK180.out 0).trans rfl; have hcz23_1 : w21.cell? ⟨gb180, 1, none⟩ = some (.string (⟨#[]⟩ : ByteArray)) := (blk_cell BK180.out 1).trans rfl; have hcz23_2 : w21.cell? ⟨gb180, 2, none⟩ = some (.slice none 0 0) := (blk_cell BK180.out 2).trans rfl; have hfz23_0 := blk_frozen BK180.out 0; have hfz23_1 := blk_frozen BK180.out 1; have hfz23_2 := blk_frozen BK180.out 2; obtain ⟨Ao24, co24, eo24⟩ := Kd.R_slice HO179.out; subst eo24) | ((with_reducible refine gate_callee (f := 20) rfl ?_); refine goesL_ (some 24) rfl rfl Tryd.func20 (by kernel_rfl) rfl #[.agg #[.string t175, .string t176, .slice Ao24 t177.length co24]] rfl (by (try simp only [List.map_toArray, List.map_cons, List.map_nil]); first | done | rfl | (simp only [List.length_drop, List.length_take]; rfl)) ?_; (with_reducible refine (impl_CountPlates.calls k t175 t176 _ _ t177 t181 t182 _ ?side1 ?side2 A10.out (env_below HENV.out (by repeat (first | (with_reducible first | exact HB.out | apply below_alloc | apply pw_below_drewN | apply below_drew1 | refine below_set ?_ GE166.out | refine below_set ?_ GE180.out) | exact HB.out)))).mono ?_); (case side1 => refine (Kd.R_reads' (e := 9) (base := w.heap.size) (ok := fun k_ => (True ∧ some k_ ≠ (.slice Ao17 t170.length co17 : Value).ownBlock)) (n := t177.length) (c := co24) ?_).2.2; exact (by (with_reducible repeat (first | apply Kd.R_alloc | apply Kd.R_drewN | apply Kd.R_drew)); exact (Kd.R_mono (Kd.R_far (p := ⟨gb180, 2, none⟩) (Kd.R_far (p := ⟨gb180, 1, none⟩) (Kd.R_far (p := ⟨gb180, 0, none⟩) (Kd.R_types HO179.out BK180.out (by decide)) (fun _ hk => hk.2) (.string t175)) (fun _ hk => hk.2) (.string t176)) (fun _ hk => hk.2) (.slice Ao24 t177.length co24)) (fun _ h_ => h_.1)))); (case side2 => exact (Kd.R_reads' HO179.out).2.1); rintro e w25 ⟨rfl, hb⟩; refine ⟨_, rfl, ?_⟩; have n0_ := Aside0.mk (Kd.R_below (by (with_reducible repeat (first | apply Kd.R_alloc | apply Kd.R_drewN | apply Kd.R_drew)); exact (Kd.R_mono (Kd.R_far (p := ⟨gb180, 2, none⟩) (Kd.R_far (p := ⟨gb180, 1, none⟩) (Kd.R_far (p := ⟨gb180, 0, none⟩) (Kd.R_types HO172.out BK180.out (by decide)) (fun _ hk => hk.2) (.string t175)) (fun _ hk => hk.2) (.string t176)) (fun _ hk => hk.2) (.slice Ao24 t177.length co24)) (fun _ h_ => h_.1))) hb); have n1_ := Aside0.mk (Kd.R_below (by (with_reducible repeat (first | apply Kd.R_alloc | apply Kd.R_drewN | apply Kd.R_drew)); exact (Kd.R_mono (Kd.R_far (p := ⟨gb180, 2, none⟩) (Kd.R_far (p := ⟨gb180, 1, none⟩) (Kd.R_far (p := ⟨gb180, 0, none⟩) (Kd.R_types HO179.out BK180.out (by decide)) (fun _ hk => hk.2) (.string t175)) (fun _ hk => hk.2) (.string t176)) (fun _ hk => hk.2) (.slice Ao24 t177.length co24)) (fun _ h_ => h_.1))) hb); have n2_ := Aside0.mk (blk_below (g := gb166) (o := .cells #[.string a0_0, .string a0_1, .slice A0_2 l0_2.length c0_2] 24 (0, 0)) (by (with_reducible repeat (first | refine blk_drewN ?_ _ | refine blk_drew ?_ | refine blk_alloc ?_ _)); refine blk_far ?_ NB166_180.out _; (with_reducible repeat (first | refine blk_drewN ?_ _ | refine blk_drew ?_ | refine blk_alloc ?_ _)); refine blk_far ?_ NB166_180.out _; (with_reducible repeat (first | refine blk_drewN ?_ _ | refine blk_drew ?_ | refine blk_alloc ?_ _)); refine blk_far ?_ NB166_180.out _; (with_reducible repeat (first | refine blk_drewN ?_ _ | refine blk_drew ?_ | refine blk_alloc ?_ _)); exact BK166.out) hb); have n3_ := Aside0.mk (blk_below (g := gb180) (o := .cells #[.string t175, .string t176, .slice Ao24 t177.length co24] 28 (0, 0)) (by (with_reducible repeat (first | refine blk_drewN ?_ _ | refine blk_drew ?_ | refine blk_alloc ?_ _)); refine blk_put (cs := #[.string t175, .string t176, .slice none 0 0]) ?_ 2 _ rfl; (with_reducible repeat (first | refine blk_drewN ?_ _ | refine blk_drew ?_ | refine blk_alloc ?_ _)); refine blk_put (cs := #[.string t175, .string (⟨#[]⟩ : ByteArray), .slice none 0 0]) ?_ 1 _ rfl; (with_reducible repeat (first | refine blk_drewN ?_ _ | refine blk_drew ?_ | refine blk_alloc ?_ _)); refine blk_put (cs := #[.string (⟨#[]⟩ : ByteArray), .string (⟨#[]⟩ : ByteArray), .slice none 0 0]) ?_ 0 _ rfl; (with_reducible repeat (first | refine blk_drewN ?_ _ | refine blk_drew ?_ | refine blk_alloc ?_ _)); exact BK180.out) hb); have n4_ := Aside0.mk (below_step (by repeat (first | (with_reducible first | exact HB.out | apply below_alloc | apply pw_below_drewN | apply below_drew1 | refine below_set ?_ GE166.out | refine below_set ?_ GE180.out) | exact HB.out)) hb); clear HO172; clear HO179; clear BK166; clear BK180; clear HB; have HO172 := n0_; have HO179 := n1_; have BK166 := n2_; have BK180 := n3_; have HB := n4_; clear n0_ n1_ n2_ n3_ n4_; (try clear hb); (try clear hb2); (try clear hk); (try clear hi)))
    (try simp only [Act.put, List.setIfInBounds_toArray, List.set_cons_zero, List.set_cons_succ])
    go_cut [34] (fun v34 wc => ∃ (kq : Nat) (x34_10 : Bool), v34 = .bool x34_10 ∧ Aside0 (laws_FnExactCountPlates.j0 kq x34_10 a0_0 a0_1 l0_2 t175 t176 t177 = some r) ∧ Aside0 (kq ≤ k) ∧ Aside0 (Kd.R Kd.string 9 wc w.heap.size (fun _ => True) (.slice Ao24 t177.length co24) t177) ∧ Aside0 (wc.heap[gb166]? = some (.cells #[.string a0_0, .string a0_1, (.slice A0_2 l0_2.length c0_2)] 24 (0, 0))) ∧ Aside0 (wc.heap[gb180]? = some (.cells #[.string t175, .string t176, (.slice Ao24 t177.length co24)] 28 (0, 0))) ∧ Aside0 (Below w.heap.size w wc))
    case first =>
      have H := HC11.out
      clear HC11
      by_cases c26 : t181 = t173
      · rw [if_pos c26] at H
        have c26b0 : (t181 == t173) = true := beq_iff_eq.mpr c26
        have c26b1 : (t181 != t173) = false := bne_eq_false_iff_eq.mpr c26
        clear c26
        (first | rw [c26b0] | (simp only [i64_w, i32_w]; rw [c26b0]) | skip)
        have H' := Aside0.mk H
        clear H
        go_wp2
        go_meet
        case rel => exact ⟨_, ((t182 != t174)), (by first | rfl | (simp; done) | (simp [*]; done)), H', ⟨by first | omega | exact Nat.le_refl _⟩, ⟨by (with_reducible repeat (first | apply Kd.R_alloc | apply Kd.R_drewN | apply Kd.R_drew)); exact Kd.R_mono HO179.out (fun _ hk => trivial)⟩, ⟨by (with_reducible repeat (first | refine blk_drewN ?_ _ | refine blk_drew ?_ | refine blk_alloc ?_ _)); exact BK166.out⟩, ⟨by (with_reducible repeat (first | refine blk_drewN ?_ _ | refine blk_drew ?_ | refine blk_alloc ?_ _)); exact BK180.out⟩, ⟨by repeat (first | (with_reducible first | exact HB.out | apply below_alloc | apply pw_below_drewN | apply below_drew1 | refine below_set ?_ GE166.out | refine below_set ?_ GE180.out) | exact HB.out)⟩⟩
      · rw [if_neg c26] at H
        have c26b0 : (t181 == t173) = false := beq_eq_false_iff_ne.mpr c26
        have c26b1 : (t181 != t173) = true := bne_iff_ne.mpr c26
        (first | rw [c26b0] | (simp only [i64_w, i32_w]; rw [c26b0]) | skip)
        have H' := Aside0.mk H
        clear H
        go_wp2
        go_meet
        case rel => exact ⟨_, (true), (by first | rfl | (simp; done) | (simp [*]; done)), H', ⟨by first | omega | exact Nat.le_refl _⟩, ⟨by (with_reducible repeat (first | apply Kd.R_alloc | apply Kd.R_drewN | apply Kd.R_drew)); exact Kd.R_mono HO179.out (fun _ hk => trivial)⟩, ⟨by (with_reducible repeat (first | refine blk_drewN ?_ _ | refine blk_drew ?_ | refine blk_alloc ?_ _)); exact BK166.out⟩, ⟨by (with_reducible repeat (first | refine blk_drewN ?_ _ | refine blk_drew ?_ | refine blk_alloc ?_ _)); exact BK180.out⟩, ⟨by repeat (first | (with_reducible first | exact HB.out | apply below_alloc | apply pw_below_drewN | apply below_drew1 | refine below_set ?_ GE166.out | refine below_set ?_ GE180.out) | exact HB.out)⟩⟩
    case rest =>
      clear HC11
      try clear c1
      try clear c2
      try clear p2
      try clear c3
      try clear c3b0
      try clear c5
      try clear c10
      try clear c12
      try clear c19
      try clear c20
      try clear c22
      try clear c26
      try clear c26b0
      try clear c26b1
      try clear hcz13_0
      try clear hcz13_1
      try clear hcz13_2
      try clear hcz15_0
      try clear hcz15_1
      try clear hcz15_2
      try clear hcz19_0
      try clear hcz19_1
      try clear hcz19_2
      try clear hcz23_0
      try clear hcz23_1
      try clear hcz23_2
      try clear hcz5_0
      try clear hcz5_1
      try clear hcz5_2
      try clear hfz13_0
      try clear hfz13_1
      try clear hfz13_2
      try clear hfz15_0
      try clear hfz15_1
      try clear hfz15_2
      try clear hfz19_0
      try clear hfz19_1
      try clear hfz19_2
      try clear hfz23_0
      try clear hfz23_1
      try clear hfz23_2
      try clear hfz5_0
      try clear hfz5_1
      try clear hfz5_2
      obtain ⟨kq, x34_10, rfl, HA, HJ10, HO_181002, BK166, BK180, HB⟩ := hcut
      cases kq with
      | zero => exact absurd HA.out (by simp [laws_FnExactCountPlates.j0])
      | succ kj10 =>
        have H := HA.out
        clear HA
        simp only [laws_FnExactCountPlates.j0] at H
        by_cases c27 : x34_10 = true
        · subst c27
          have H1 : (some false) = some r := by rw [if_pos rfl] at H; exact H
          clear H
          have H := H1
          clear H1
          obtain rfl := Option.some.inj H
          go_wp2
          go_ret
          exact ⟨by first | rfl | (simp [errW_none, errW_some] <;> rfl) | (simp [*, errW_none, errW_some] <;> rfl), by repeat (first | (with_reducible first | exact HB.out | apply below_alloc | apply pw_below_drewN | apply below_drew1 | refine below_set ?_ GE166.out | refine below_set ?_ GE180.out) | exact HB.out)⟩
        · replace c27 := Bool.eq_false_iff.mpr c27
          subst c27
          have H1 : ((laws_toScheme.f kj10 a0_0 a0_1 l0_2).bind fun bt183 => ((laws_eqScheme.f kj10 t175 t176 t177 bt183.1 bt183.2.1 bt183.2.2).bind fun t188 => (if t188 = true then (some true) else (some false)))) = some r := by rw [if_neg (show ¬ (false = true) by decide)] at H; exact H
          clear H
          have H := H1
          clear H1
          replace H := Option.bind_eq_some_iff.mp H
          obtain ⟨⟨t183, t184, t185⟩, A280, H⟩ := H
          replace H : ((laws_eqScheme.f kj10 t175 t176 t177 t183 t184 t185).bind fun t188 => (if t188 = true then (some true) else (some false))) = some r := H
          have A28 := Aside0.mk A280
          clear A280
          replace H := Option.bind_eq_some_iff.mp H
          obtain ⟨t188, A290, H⟩ := H
          replace H : (if t188 = true then (some true) else (some false)) = some r := H
          have A29 := Aside0.mk A290
          clear A290
          by_cases c30 : t188 = true
          · subst c30
            have H1 : (some true) = some r := by rw [if_pos rfl] at H; exact H
            clear H
            have H := H1
            clear H1
            obtain rfl := Option.some.inj H
            try go_wp2
            have n0_ := Aside0.mk (Kd.R_drew HO_181002.out)
            have n1_ := Aside0.mk (blk_drew BK166.out)
            have n2_ := Aside0.mk (blk_drew BK180.out)
            have n3_ := Aside0.mk (below_drew1 HB.out)
            clear HO_181002
            clear BK166
            clear BK180
            clear HB
            have HO_181002 := n0_
            have BK166 := n1_
            have BK180 := n2_
            have HB := n3_
            clear n0_ n1_ n2_ n3_
            refine start_ (n := 5) (S := fun w' => w'.cell? ⟨gb180, 0, none⟩ = some (.string t175) ∧ w'.cell? ⟨gb180, 1, none⟩ = some (.string t176) ∧ w'.cell? ⟨gb180, 2, none⟩ = some (.slice Ao24 t177.length co24) ∧ w'.cell? ⟨gb166, 0, none⟩ = some (.string a0_0) ∧ w'.cell? ⟨gb166, 1, none⟩ = some (.string a0_1) ∧ w'.cell? ⟨gb166, 2, none⟩ = some (.slice A0_2 l0_2.length c0_2)) (ds := []) #[false, false, false, false, false] (by kernel_rfl) rfl rfl ⟨(blk_cell BK180.out 0).trans rfl, (blk_cell BK180.out 1).trans rfl, (blk_cell BK180.out 2).trans rfl, (blk_cell BK166.out 0).trans rfl, (blk_cell BK166.out 1).trans rfl, (blk_cell BK166.out 2).trans rfl⟩ (fun hHeld => ?_)
            generalize wc.drew = w31 at HO_181002 BK166 BK180 HB hHeld ⊢
            refine take_ (i := 0) (N := some 35) (v := ?_) (a' := ?_) #[true, false, false, false, false] rfl rfl (by kernel_rfl) (fun _ _ _ h => h) (Or.inl ⟨by rfl, ?_⟩) hHeld ?_ ?_
            rotate_left
            · rintro w' ⟨s0, s1, s2, s3, s4, s5⟩
              go_simp
              with_reducible rfl
            rotate_left
            · simp only [Act.put, List.setIfInBounds_toArray, List.set_cons_zero, List.set_cons_succ, i64_w, i32_w]
              rfl
            refine take_ (i := 1) (N := some 36) (v := ?_) (a' := ?_) #[true, true, false, false, false] rfl rfl (by kernel_rfl) (fun _ _ _ h => h) (Or.inl ⟨by rfl, ?_⟩) hHeld ?_ ?_
            rotate_left
            · rintro w' ⟨s0, s1, s2, s3, s4, s5⟩
              go_simp
              with_reducible rfl
            rotate_left
            · simp only [Act.put, List.setIfInBounds_toArray, List.set_cons_zero, List.set_cons_succ, i64_w, i32_w]
              rfl
            refine one_ (i := 2) (N := some 37) #[true, true, true, false, false] rfl rfl (by kernel_rfl) (by decide) (fun K hK => ?_)
            refine goes_ Tryd.func12 (by kernel_rfl) rfl #[.agg #[.string a0_0, .string a0_1, .slice A0_2 l0_2.length c0_2]] (by rfl) rfl rfl (by (try simp only [List.map_toArray, List.map_cons, List.map_nil]); first | done | rfl | (simp only [List.length_drop, List.length_take]; rfl)) ?_
            with_reducible refine (laws_toScheme.calls kj10 a0_0 a0_1 _ _ l0_2 t183 t184 t185 _ ?side1 ?side2 A28.out).mono ?_
            (case side1 => repeat (first | exact (Kd.C_below HR0_2.out HB.out) | (with_reducible refine Kd.C_alloc ?_ _) | (with_reducible refine Kd.C_drewN ?_ _) | (with_reducible refine Kd.C_drew ?_)))
            (case side2 => exact HC0_2.out)
            rintro e w32 ⟨v186, rfl, ho0, hb⟩
            refine ⟨_, rfl, ?_⟩
            have n0_ := Aside0.mk (Kd.R_elder' (by (with_reducible repeat (first | apply Kd.R_alloc | apply Kd.R_drewN | apply Kd.R_drew)); exact HO_181002.out) (Kd.R_base ho0) hb)
            have n1_ := Aside0.mk (Kd.R_lower (Kd.R_new' ho0 (Kd.R_lt (by (with_reducible repeat (first | apply Kd.R_alloc | apply Kd.R_drewN | apply Kd.R_drew)); exact HO_181002.out))) (below_size (by repeat (first | (with_reducible first | exact HB.out | apply below_alloc | apply pw_below_drewN | apply below_drew1 | refine below_set ?_ GE166.out | refine below_set ?_ GE180.out) | exact HB.out))))
            have n2_ := Aside0.mk (blk_below (g := gb166) (o := .cells #[.string a0_0, .string a0_1, .slice A0_2 l0_2.length c0_2] 24 (0, 0)) (by (with_reducible repeat (first | refine blk_drewN ?_ _ | refine blk_drew ?_ | refine blk_alloc ?_ _)); exact BK166.out) hb)
            have n3_ := Aside0.mk (blk_below (g := gb180) (o := .cells #[.string t175, .string t176, .slice Ao24 t177.length co24] 28 (0, 0)) (by (with_reducible repeat (first | refine blk_drewN ?_ _ | refine blk_drew ?_ | refine blk_alloc ?_ _)); exact BK180.out) hb)
            have n4_ := Aside0.mk (below_step (by repeat (first | (with_reducible first | exact HB.out | apply below_alloc | apply pw_below_drewN | apply below_drew1 | refine below_set ?_ GE166.out | refine below_set ?_ GE180.out) | exact HB.out)) hb)
            clear HO_181002
            clear BK166
            clear BK180
            clear HB
            have HO_181002 := n0_
            have HO187 := n1_
            have BK166 := n2_
            have BK180 := n3_
            have HB := n4_
            clear n0_ n1_ n2_ n3_ n4_
            (try clear hb)
            (try clear hb2)
            (try clear hk)
            (try clear hi)
            (try clear ho0)
            obtain ⟨Ao33, co33, eo33⟩ := Kd.R_slice HO187.out
            (first | subst eo33 | (injection eo33 with f1_ f2_ f3_; have f4_ := f1_.symm; have f5_ := f3_.symm; clear f1_ f2_ f3_; subst f4_; subst f5_))
            refine hK.out _ _ ⟨(blk_cell BK180.out 0).trans rfl, (blk_cell BK180.out 1).trans rfl, (blk_cell BK180.out 2).trans rfl, (blk_cell BK166.out 0).trans rfl, (blk_cell BK166.out 1).trans rfl, (blk_cell BK166.out 2).trans rfl⟩ (fun hHeld => ?_)
            clear hK K
            refine norm_ (a' := ?_) ?_ ?_
            rotate_left
            · show Act.put _ (some 37) _ = _
              simp only [Act.put, List.setIfInBounds_toArray, List.set_cons_zero, List.set_cons_succ, i64_w, i32_w]
              rfl
            refine one_ (i := 3) (N := some 38) #[true, true, true, true, false] rfl rfl (by kernel_rfl) (by decide) (fun K hK => ?_)
            refine goes_ Tryd.func14 (by kernel_rfl) rfl #[.agg #[.string t175, .string t176, .slice Ao24 t177.length co24], .agg #[.string t183, .string t184, .slice Ao33 t185.length co33]] (by rfl) rfl rfl (by (try simp only [List.map_toArray, List.map_cons, List.map_nil]); first | done | rfl | (simp only [List.length_drop, List.length_take]; rfl)) ?_
            with_reducible refine (laws_eqScheme.calls kj10 t175 t176 _ _ t177 t183 t184 _ _ t185 true _ ?side1 ?side2 ?side3 ?side4 A29.out).mono ?_
            (case side1 => repeat (first | exact (Kd.R_reads' HO_181002.out).2.2 | (with_reducible refine Kd.C_alloc ?_ _) | (with_reducible refine Kd.C_drewN ?_ _) | (with_reducible refine Kd.C_drew ?_)))
            (case side2 => exact (Kd.R_reads' HO_181002.out).2.1)
            (case side3 => repeat (first | exact (Kd.R_reads' HO187.out).2.2 | (with_reducible refine Kd.C_alloc ?_ _) | (with_reducible refine Kd.C_drewN ?_ _) | (with_reducible refine Kd.C_drew ?_)))
            (case side4 => exact (Kd.R_reads' HO187.out).2.1)
            rintro e w34 ⟨rfl, hb⟩
            refine ⟨_, rfl, ?_⟩
            have n0_ := Aside0.mk (Kd.R_below (by (with_reducible repeat (first | apply Kd.R_alloc | apply Kd.R_drewN | apply Kd.R_drew)); exact HO_181002.out) hb)
            have n1_ := Aside0.mk (Kd.R_below (by (with_reducible repeat (first | apply Kd.R_alloc | apply Kd.R_drewN | apply Kd.R_drew)); exact HO187.out) hb)
            have n2_ := Aside0.mk (blk_below (g := gb166) (o := .cells #[.string a0_0, .string a0_1, .slice A0_2 l0_2.length c0_2] 24 (0, 0)) (by (with_reducible repeat (first | refine blk_drewN ?_ _ | refine blk_drew ?_ | refine blk_alloc ?_ _)); exact BK166.out) hb)
            have n3_ := Aside0.mk (blk_below (g := gb180) (o := .cells #[.string t175, .string t176, .slice Ao24 t177.length co24] 28 (0, 0)) (by (with_reducible repeat (first | refine blk_drewN ?_ _ | refine blk_drew ?_ | refine blk_alloc ?_ _)); exact BK180.out) hb)
            have n4_ := Aside0.mk (below_step (by repeat (first | (with_reducible first | exact HB.out | apply below_alloc | apply pw_below_drewN | apply below_drew1 | refine below_set ?_ GE166.out | refine below_set ?_ GE180.out) | exact HB.out)) hb)
            clear HO_181002
            clear HO187
            clear BK166
            clear BK180
            clear HB
            have HO_181002 := n0_
            have HO187 := n1_
            have BK166 := n2_
            have BK180 := n3_
            have HB := n4_
            clear n0_ n1_ n2_ n3_ n4_
            (try clear hb)
            (try clear hb2)
            (try clear hk)
            (try clear hi)
            refine hK.out _ _ ⟨(blk_cell BK180.out 0).trans rfl, (blk_cell BK180.out 1).trans rfl, (blk_cell BK180.out 2).trans rfl, (blk_cell BK166.out 0).trans rfl, (blk_cell BK166.out 1).trans rfl, (blk_cell BK166.out 2).trans rfl⟩ (fun hHeld => ?_)
            clear hK K
            refine norm_ (a' := ?_) ?_ ?_
            rotate_left
            · show Act.put _ (some 38) _ = _
              simp only [Act.put, List.setIfInBounds_toArray, List.set_cons_zero, List.set_cons_succ, i64_w, i32_w]
              rfl
            refine pure_ (i := 4) (N := some 39) (v := ?_) (a' := ?_) #[true, true, true, true, true] rfl rfl (by kernel_rfl) (fun _ _ _ h => h) (Or.inl ⟨by rfl, ?_⟩) ?_ ?_
            rotate_left
            · intro w'
              go_simp
              with_reducible rfl
            rotate_left
            · simp only [Act.put, List.setIfInBounds_toArray, List.set_cons_zero, List.set_cons_succ, i64_w, i32_w]
              rfl
            refine done_ (by kernel_rfl) ?_
            try go_wp2
            go_ret
            exact ⟨by first | rfl | (simp [errW_none, errW_some] <;> rfl) | (simp [*, errW_none, errW_some] <;> rfl), by repeat (first | (with_reducible first | exact HB.out | apply below_alloc | apply pw_below_drewN | apply below_drew1 | refine below_set ?_ GE166.out | refine below_set ?_ GE180.out) | exact HB.out)⟩
          · replace c30 := Bool.eq_false_iff.mpr c30
            subst c30
            have H1 : (some false) = some r := by rw [if_neg (show ¬ (false = true) by decide)] at H; exact H
            clear H
            have H := H1
            clear H1
            obtain rfl := Option.some.inj H
            try go_wp2
            have n0_ := Aside0.mk (Kd.R_drew HO_181002.out)
            have n1_ := Aside0.mk (blk_drew BK166.out)
            have n2_ := Aside0.mk (blk_drew BK180.out)
            have n3_ := Aside0.mk (below_drew1 HB.out)
            clear HO_181002
            clear BK166
            clear BK180
            clear HB
            have HO_181002 := n0_
            have BK166 := n1_
            have BK180 := n2_
            have HB := n3_
            clear n0_ n1_ n2_ n3_
            refine start_ (n := 5) (S := fun w' => w'.cell? ⟨gb180, 0, none⟩ = some (.string t175) ∧ w'.cell? ⟨gb180, 1, none⟩ = some (.string t176) ∧ w'.cell? ⟨gb180, 2, none⟩ = some (.slice Ao24 t177.length co24) ∧ w'.cell? ⟨gb166, 0, none⟩ = some (.string a0_0) ∧ w'.cell? ⟨gb166, 1, none⟩ = some (.string a0_1) ∧ w'.cell? ⟨gb166, 2, none⟩ = some (.slice A0_2 l0_2.length c0_2)) (ds := []) #[false, false, false, false, false] (by kernel_rfl) rfl rfl ⟨(blk_cell BK180.out 0).trans rfl, (blk_cell BK180.out 1).trans rfl, (blk_cell BK180.out 2).trans rfl, (blk_cell BK166.out 0).trans rfl, (blk_cell BK166.out 1).trans rfl, (blk_cell BK166.out 2).trans rfl⟩ (fun hHeld => ?_)
            generalize wc.drew = w35 at HO_181002 BK166 BK180 HB hHeld ⊢
            refine take_ (i := 0) (N := some 35) (v := ?_) (a' := ?_) #[true, false, false, false, false] rfl rfl (by kernel_rfl) (fun _ _ _ h => h) (Or.inl ⟨by rfl, ?_⟩) hHeld ?_ ?_
            rotate_left
            · rintro w' ⟨s0, s1, s2, s3, s4, s5⟩
              go_simp
              with_reducible rfl
            rotate_left
            · simp only [Act.put, List.setIfInBounds_toArray, List.set_cons_zero, List.set_cons_succ, i64_w, i32_w]
              rfl
            refine take_ (i := 1) (N := some 36) (v := ?_) (a' := ?_) #[true, true, false, false, false] rfl rfl (by kernel_rfl) (fun _ _ _ h => h) (Or.inl ⟨by rfl, ?_⟩) hHeld ?_ ?_
            rotate_left
            · rintro w' ⟨s0, s1, s2, s3, s4, s5⟩
              go_simp
              with_reducible rfl
            rotate_left
            · simp only [Act.put, List.setIfInBounds_toArray, List.set_cons_zero, List.set_cons_succ, i64_w, i32_w]
              rfl
            refine one_ (i := 2) (N := some 37) #[true, true, true, false, false] rfl rfl (by kernel_rfl) (by decide) (fun K hK => ?_)
            refine goes_ Tryd.func12 (by kernel_rfl) rfl #[.agg #[.string a0_0, .string a0_1, .slice A0_2 l0_2.length c0_2]] (by rfl) rfl rfl (by (try simp only [List.map_toArray, List.map_cons, List.map_nil]); first | done | rfl | (simp only [List.length_drop, List.length_take]; rfl)) ?_
            with_reducible refine (laws_toScheme.calls kj10 a0_0 a0_1 _ _ l0_2 t183 t184 t185 _ ?side1 ?side2 A28.out).mono ?_
            (case side1 => repeat (first | exact (Kd.C_below HR0_2.out HB.out) | (with_reducible refine Kd.C_alloc ?_ _) | (with_reducible refine Kd.C_drewN ?_ _) | (with_reducible refine Kd.C_drew ?_)))
            (case side2 => exact HC0_2.out)
            rintro e w36 ⟨v186, rfl, ho0, hb⟩
            refine ⟨_, rfl, ?_⟩
            have n0_ := Aside0.mk (Kd.R_elder' (by (with_reducible repeat (first | apply Kd.R_alloc | apply Kd.R_drewN | apply Kd.R_drew)); exact HO_181002.out) (Kd.R_base ho0) hb)
            have n1_ := Aside0.mk (Kd.R_lower (Kd.R_new' ho0 (Kd.R_lt (by (with_reducible repeat (first | apply Kd.R_alloc | apply Kd.R_drewN | apply Kd.R_drew)); exact HO_181002.out))) (below_size (by repeat (first | (with_reducible first | exact HB.out | apply below_alloc | apply pw_below_drewN | apply below_drew1 | refine below_set ?_ GE166.out | refine below_set ?_ GE180.out) | exact HB.out))))
            have n2_ := Aside0.mk (blk_below (g := gb166) (o := .cells #[.string a0_0, .string a0_1, .slice A0_2 l0_2.length c0_2] 24 (0, 0)) (by (with_reducible repeat (first | refine blk_drewN ?_ _ | refine blk_drew ?_ | refine blk_alloc ?_ _)); exact BK166.out) hb)
            have n3_ := Aside0.mk (blk_below (g := gb180) (o := .cells #[.string t175, .string t176, .slice Ao24 t177.length co24] 28 (0, 0)) (by (with_reducible repeat (first | refine blk_drewN ?_ _ | refine blk_drew ?_ | refine blk_alloc ?_ _)); exact BK180.out) hb)
            have n4_ := Aside0.mk (below_step (by repeat (first | (with_reducible first | exact HB.out | apply below_alloc | apply pw_below_drewN | apply below_drew1 | refine below_set ?_ GE166.out | refine below_set ?_ GE180.out) | exact HB.out)) hb)
            clear HO_181002
            clear BK166
            clear BK180
            clear HB
            have HO_181002 := n0_
            have HO187 := n1_
            have BK166 := n2_
            have BK180 := n3_
            have HB := n4_
            clear n0_ n1_ n2_ n3_ n4_
            (try clear hb)
            (try clear hb2)
            (try clear hk)
            (try clear hi)
            (try clear ho0)
            obtain ⟨Ao37, co37, eo37⟩ := Kd.R_slice HO187.out
            (first | subst eo37 | (injection eo37 with f1_ f2_ f3_; have f4_ := f1_.symm; have f5_ := f3_.symm; clear f1_ f2_ f3_; subst f4_; subst f5_))
            refine hK.out _ _ ⟨(blk_cell BK180.out 0).trans rfl, (blk_cell BK180.out 1).trans rfl, (blk_cell BK180.out 2).trans rfl, (blk_cell BK166.out 0).trans rfl, (blk_cell BK166.out 1).trans rfl, (blk_cell BK166.out 2).trans rfl⟩ (fun hHeld => ?_)
            clear hK K
            refine norm_ (a' := ?_) ?_ ?_
            rotate_left
            · show Act.put _ (some 37) _ = _
              simp only [Act.put, List.setIfInBounds_toArray, List.set_cons_zero, List.set_cons_succ, i64_w, i32_w]
              rfl
            refine one_ (i := 3) (N := some 38) #[true, true, true, true, false] rfl rfl (by kernel_rfl) (by decide) (fun K hK => ?_)
            refine goes_ Tryd.func14 (by kernel_rfl) rfl #[.agg #[.string t175, .string t176, .slice Ao24 t177.length co24], .agg #[.string t183, .string t184, .slice Ao37 t185.length co37]] (by rfl) rfl rfl (by (try simp only [List.map_toArray, List.map_cons, List.map_nil]); first | done | rfl | (simp only [List.length_drop, List.length_take]; rfl)) ?_
            with_reducible refine (laws_eqScheme.calls kj10 t175 t176 _ _ t177 t183 t184 _ _ t185 false _ ?side1 ?side2 ?side3 ?side4 A29.out).mono ?_
            (case side1 => repeat (first | exact (Kd.R_reads' HO_181002.out).2.2 | (with_reducible refine Kd.C_alloc ?_ _) | (with_reducible refine Kd.C_drewN ?_ _) | (with_reducible refine Kd.C_drew ?_)))
            (case side2 => exact (Kd.R_reads' HO_181002.out).2.1)
            (case side3 => repeat (first | exact (Kd.R_reads' HO187.out).2.2 | (with_reducible refine Kd.C_alloc ?_ _) | (with_reducible refine Kd.C_drewN ?_ _) | (with_reducible refine Kd.C_drew ?_)))
            (case side4 => exact (Kd.R_reads' HO187.out).2.1)
            rintro e w38 ⟨rfl, hb⟩
            refine ⟨_, rfl, ?_⟩
            have n0_ := Aside0.mk (Kd.R_below (by (with_reducible repeat (first | apply Kd.R_alloc | apply Kd.R_drewN | apply Kd.R_drew)); exact HO_181002.out) hb)
            have n1_ := Aside0.mk (Kd.R_below (by (with_reducible repeat (first | apply Kd.R_alloc | apply Kd.R_drewN | apply Kd.R_drew)); exact HO187.out) hb)
            have n2_ := Aside0.mk (blk_below (g := gb166) (o := .cells #[.string a0_0, .string a0_1, .slice A0_2 l0_2.length c0_2] 24 (0, 0)) (by (with_reducible repeat (first | refine blk_drewN ?_ _ | refine blk_drew ?_ | refine blk_alloc ?_ _)); exact BK166.out) hb)
            have n3_ := Aside0.mk (blk_below (g := gb180) (o := .cells #[.string t175, .string t176, .slice Ao24 t177.length co24] 28 (0, 0)) (by (with_reducible repeat (first | refine blk_drewN ?_ _ | refine blk_drew ?_ | refine blk_alloc ?_ _)); exact BK180.out) hb)
            have n4_ := Aside0.mk (below_step (by repeat (first | (with_reducible first | exact HB.out | apply below_alloc | apply pw_below_drewN | apply below_drew1 | refine below_set ?_ GE166.out | refine below_set ?_ GE180.out) | exact HB.out)) hb)
            clear HO_181002
            clear HO187
            clear BK166
            clear BK180
            clear HB
            have HO_181002 := n0_
            have HO187 := n1_
            have BK166 := n2_
            have BK180 := n3_
            have HB := n4_
            clear n0_ n1_ n2_ n3_ n4_
            (try clear hb)
            (try clear hb2)
            (try clear hk)
            (try clear hi)
            refine hK.out _ _ ⟨(blk_cell BK180.out 0).trans rfl, (blk_cell BK180.out 1).trans rfl, (blk_cell BK180.out 2).trans rfl, (blk_cell BK166.out 0).trans rfl, (blk_cell BK166.out 1).trans rfl, (blk_cell BK166.out 2).trans rfl⟩ (fun hHeld => ?_)
            clear hK K
            refine norm_ (a' := ?_) ?_ ?_
            rotate_left
            · show Act.put _ (some 38) _ = _
              simp only [Act.put, List.setIfInBounds_toArray, List.set_cons_zero, List.set_cons_succ, i64_w, i32_w]
              rfl
            refine pure_ (i := 4) (N := some 39) (v := ?_) (a' := ?_) #[true, true, true, true, true] rfl rfl (by kernel_rfl) (fun _ _ _ h => h) (Or.inl ⟨by rfl, ?_⟩) ?_ ?_
            rotate_left
            · intro w'
              go_simp
              with_reducible rfl
            rotate_left
            · simp only [Act.put, List.setIfInBounds_toArray, List.set_cons_zero, List.set_cons_succ, i64_w, i32_w]
              rfl
            refine done_ (by kernel_rfl) ?_
            try go_wp2
            go_ret
            exact ⟨by first | rfl | (simp [errW_none, errW_some] <;> rfl) | (simp [*, errW_none, errW_some] <;> rfl), by repeat (first | (with_reducible first | exact HB.out | apply below_alloc | apply pw_below_drewN | apply below_drew1 | refine below_set ?_ GE166.out | refine below_set ?_ GE180.out) | exact HB.out)⟩

end Go.Proofs.YtmplmfoacnnieaaDoor.PFnExactCountPlates
