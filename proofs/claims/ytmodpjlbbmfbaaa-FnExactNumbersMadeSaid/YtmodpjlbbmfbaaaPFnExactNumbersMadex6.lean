-- Laid by a program of this session (wip/myprint.py) out of the translation; some contracts in it are the session's own.
import Derived.Test.YtmodpjlbbmfbaaaPFnExactNumbersMadex0
import Derived.Test.YtmodpjlbbmfbaaaPFnExactNumbersMadex4
import Derived.Test.YtmodpjlbbmfbaaaPFnExactNumbersMadex5
namespace Go.Proofs.Ytmodpjlbbmfbaaa.PFnExactNumbersMade
open Go.RowKit Go.Proofs.YtmodpjlbbmfbaaaW.PrintWords Go.Proofs.YtmodpjlbbmfbaaaW.PrintLast Go.Proofs.YtmodpjlbbmfbaaaW.PrintMore
attribute [local go_sem] max2_int min2_int max_two min_two max_three min_three max_four min_four   -- for this text's walks alone
set_option linter.unusedVariables false
set_option linter.unusedSimpArgs false

/-! ### impl_NumbersMade: function 20 -/
-- --making --rounds
-- included rowkit
/-- Block B's first n cells are the bytes xs, and none of them is frozen. -/
def RowB (W : World) (B n : Nat) (xs : List Int) : Prop :=
  B < W.heap.size ∧ xs.length = n ∧ (∀ j : Nat, j < n → W.cell? ⟨B, j, none⟩ = some (.int .u8 (rd xs j))) ∧ (∀ j : Nat, j < n → W.frozen? ⟨B, j, none⟩ = false)
theorem rowB_made (w : World) (s : ByteArray) (cap : Nat) (e : TypeId) :
    RowB (w.alloc (.cells (bytesRow s cap) e ((bytesRow s cap).size, (bytesRow s cap).size + 1))) w.heap.size s.size (bytesOf s) := by
  have hs : s.size ≤ (bytesRow s cap).size := by
    have h1 : s.data.size = s.size := rfl
    simp [bytesRow] <;> omega
  refine ⟨by simp, bytesOf_length s, fun j hj => ?_, fun j hj => ?_⟩
  · rw [World.cell?_alloc_mark]
    have h0 : j < s.data.size := hj
    have h1 : j < (s.data.map (fun b => Value.int .u8 b.toNat)).size := by simpa using h0
    unfold bytesRow
    rw [Array.getElem?_append_left h1, Array.getElem?_eq_getElem h1]
    rw [rd_bytesOf]
    have hb : bt s (j : Int) = (s.data[j].toNat : Int) := by
      unfold bt
      have h2 : (j : Int).toNat < s.size := by simpa using hj
      rw [dif_pos h2]
      rfl
    rw [hb]
    simp
  · rw [World.frozen?_alloc_mark]
    simp; omega
theorem rowB_set {W : World} {B n : Nat} {xs : List Int} (h : RowB W B n xs) (i : Nat) (hi : i < n) (v : Int) :
    RowB (W.setCell ⟨B, i, none⟩ (.int .u8 v)) B n (xs.set i v) := by
  obtain ⟨h0, h1, h2, h3⟩ := h
  refine ⟨by simpa [World.setCell] using h0, by simpa using h1, fun j hj => ?_, fun j hj => ?_⟩
  · by_cases e : j = i
    · subst e
      rw [World.cell?_setCell_same (h := h2 j hj)]
      have : j < xs.length := by omega
      simp [rd, this]
    · rw [World.cell?_setCell_other (w := W) (a := ⟨B, i, none⟩) (b := ⟨B, j, none⟩) (h := fun c => e (congrArg Addr.off c).symm), h2 j hj]
      have e' : ¬ i = j := fun c => e c.symm
      simp [rd, List.getD_eq_getElem?_getD, List.getElem?_set, e']
  · rw [World.frozen?_setCell]; exact h3 j hj
theorem rowB_block {W W' : World} {B n : Nat} {xs : List Int} (h : RowB W B n xs) (hb : W'.heap[B]? = W.heap[B]?) : RowB W' B n xs := by
  obtain ⟨h0, h1, h2, h3⟩ := h
  have hs : B < W'.heap.size := by
    rcases Nat.lt_or_ge B W'.heap.size with h | h
    · exact h
    · rw [Array.getElem?_eq_none h] at hb
      rw [Array.getElem?_eq_getElem h0] at hb
      cases hb
  exact ⟨hs, h1, fun j hj => (World.cell?_of_block (w := W) hb).trans (h2 j hj), fun j hj => (World.frozen?_of_block (w := W) hb).trans (h3 j hj)⟩
theorem rowB_below {W W' : World} {B n : Nat} {xs : List Int} (h : RowB W B n xs) (hb : Below W.heap.size W W') : RowB W' B n xs := rowB_block h (hb.block B h.1)
theorem rowB_drewN {W : World} {B n : Nat} {xs : List Int} (h : RowB W B n xs) (m : Nat) : RowB (W.drewN m) B n xs := rowB_block h rfl
/-- 'string(b)' of such a row. -/
theorem rowB_string {P : Program} {W : World} {B n cap : Nat} {xs : List Int} {src dst e : TypeId} (h : RowB W B n xs) (hx : ∀ c ∈ xs, 0 ≤ c ∧ c < 256)
    (hs : P.underlying src = some (.slice e)) (he : P.underlying e = some (.int .u8)) (hd : P.underlying dst = some .string) :
    (convert src dst (.slice (some ⟨B, 0, none⟩) n cap)).run P W = .ok (.string (strOfNums xs)) W := by
  obtain ⟨h0, h1, h2, h3⟩ := h
  have := run_convert_bytes_back (P := P) W src dst e ⟨B, 0, none⟩ cap (xs.map fun c => UInt8.ofNat c.toNat) hs he hd (fun j hj => by
    have hj' : j < n := by simpa [h1] using hj
    have hj2 : j < xs.length := by omega
    have hm := hx xs[j] (List.getElem_mem hj2)
    rw [Addr.add_lit, Nat.zero_add, h2 j hj']
    simp [rd, hj2]
    omega)
  rw [show (xs.map fun c => UInt8.ofNat c.toNat).length = n by simpa using h1] at this
  rw [this]
  simp [strOfNums]

-- included closures3
theorem setCell_size_ (w : World) (p : Addr) (v : Value) : (w.setCell p v).heap.size = w.heap.size := by simp [World.setCell]
def onT (r : Int × Int × Int) (s x : Int) : Int × Int × Int :=
  if s = 42 then (r.1, wrap64 (r.2.1 * r.2.2), (x - 48) % 256) else if s = 43 then (wrap64 (r.1 + wrap64 (r.2.1 * r.2.2)), 1, (x - 48) % 256) else if s = 45 then (wrap64 (r.1 + wrap64 (r.2.1 * r.2.2)), -1, (x - 48) % 256) else (r.1, r.2.1, wrap64 (wrap64 (10 * r.2.2) + (x - 48) % 256))
def valT (r : Int × Int × Int) : Int := wrap64 (r.1 + wrap64 (r.2.1 * r.2.2))
theorem on_some_ (r : Int × Int × Int) (s x : Int) : impl_reckoner_on.f r.1 r.2.1 r.2.2 s x = some ((onT r s x).1, (onT r s x).2.1, (onT r s x).2.2) := by
  unfold impl_reckoner_on.f impl_reckoner_value.f onT
  by_cases h1 : s = 42
  · rw [if_pos h1, if_pos h1]
  · rw [if_neg h1, if_neg h1]
    by_cases h2 : s = 43
    · rw [if_pos h2, if_pos h2]; rfl
    · rw [if_neg h2, if_neg h2]
      by_cases h3 : s = 45
      · rw [if_pos h3, if_pos h3]; rfl
      · rw [if_neg h3, if_neg h3]
theorem val_some_ (r : Int × Int × Int) : impl_reckoner_value.f r.1 r.2.1 r.2.2 = some (valT r) := rfl
def roundsT {σ : Type} (g : Int → σ → σ × Bool) : List Int → σ → σ × Bool
  | [], st => (st, true)
  | s :: l, st => if (g s st).2 = true then roundsT g l (g s st).1 else ((g s st).1, false)
def dfsT {σ : Type} (f : σ → List Int → Int → σ × Bool) (ds : ByteArray) : Nat → Nat → List Int → Int × Int × Int → σ → σ × Bool
  | 0, _, pre, r, st => f st pre (valT r)
  | d + 1, i, pre, r, st => roundsT (fun s st => dfsT f ds d (i + 1) (pre ++ [s]) (onT r s (bt ds (i : Int))) st) [42, 43, 45, 0] st
/-- What a set of blocks keeps. -/
structure BelowP (P : Nat → Prop) (w w' : World) : Prop where
  os : w'.os = w.os
  tape : w'.tape = w.tape
  output : w'.output = w.output
  size : w.heap.size ≤ w'.heap.size
  block : ∀ k, P k → w'.heap[k]? = w.heap[k]?
theorem BelowP.refl (P : Nat → Prop) (w : World) : BelowP P w w := ⟨rfl, rfl, rfl, Nat.le_refl _, fun _ _ => rfl⟩
theorem BelowP.trans {P : Nat → Prop} {a b c : World} (h : BelowP P a b) (k : BelowP P b c) : BelowP P a c :=
  ⟨k.os.trans h.os, k.tape.trans h.tape, k.output.trans h.output, Nat.le_trans h.size k.size, fun i hi => (k.block i hi).trans (h.block i hi)⟩
theorem BelowP.mono {P Q : Nat → Prop} {a b : World} (h : BelowP P a b) (hq : ∀ k, Q k → P k) : BelowP Q a b := ⟨h.os, h.tape, h.output, h.size, fun k hk => h.block k (hq k hk)⟩
theorem belowP_of {P : Nat → Prop} {a b : World} (h : Below a.heap.size a b) (hP : ∀ k, P k → k < a.heap.size) : BelowP P a b := ⟨h.os, h.tape, h.output, h.size, fun k hk => h.block k (hP k hk)⟩
theorem belowP_set {P : Nat → Prop} {a w : World} (h : BelowP P a w) {b : Nat} (hb : ¬ P b) (o : Nat) (u : Value) : BelowP P a (w.setCell ⟨b, o, none⟩ u) :=
  ⟨h.os, h.tape, h.output, by simpa [World.setCell] using h.size, fun k hk => (Below.heap_setCell w _ u k (fun e => hb (by have e2 : k = b := e; rw [← e2]; exact hk))).trans (h.block k hk)⟩
theorem below_cell_ {w w' : World} (h : Below w.heap.size w w') {p : Addr} {v : Value} (hc : w.cell? p = some v) : w'.cell? p = some v := (h.cell (World.block_lt_of_cell? w p hc)).trans hc
theorem belowP_cell_ {P : Nat → Prop} {w w' : World} (h : BelowP P w w') {p : Addr} (hp : P p.block) {v : Value} (hc : w.cell? p = some v) : w'.cell? p = some v := (World.cell?_of_block (w := w) (h.block _ hp)).trans hc
/-- What 'choose' captured. -/
structure EnvC (Bd Be Br Bs Bc m g : Nat) (caps : Array Value) (ds : ByteArray) (w : World) : Prop where
  d : w.cell? ⟨Bd, 0, none⟩ = some (.string ds)
  e : w.cell? ⟨Be, 0, none⟩ = some (.func (.func g) #[] caps)
  s : w.cell? ⟨Bs, 0, none⟩ = some (.slice (some ⟨Br, 0, none⟩) m m)
  c : w.cell? ⟨Bc, 0, none⟩ = some (.func (.func 46) #[] #[.pointer (some ⟨Bd, 0, none⟩), .pointer (some ⟨Be, 0, none⟩), .pointer (some ⟨Bs, 0, none⟩), .pointer (some ⟨Bc, 0, none⟩)])
theorem EnvC.keep {Bd Be Br Bs Bc m g : Nat} {caps : Array Value} {ds : ByteArray} {w w' : World} (h : EnvC Bd Be Br Bs Bc m g caps ds w) (h1 : w'.heap[Bd]? = w.heap[Bd]?) (h2 : w'.heap[Be]? = w.heap[Be]?) (h3 : w'.heap[Bs]? = w.heap[Bs]?) (h4 : w'.heap[Bc]? = w.heap[Bc]?) : EnvC Bd Be Br Bs Bc m g caps ds w' :=
  ⟨(World.cell?_of_block (w := w) h1).trans h.d, (World.cell?_of_block (w := w) h2).trans h.e, (World.cell?_of_block (w := w) h3).trans h.s, (World.cell?_of_block (w := w) h4).trans h.c⟩
theorem EnvC.keepP {Bd Be Br Bs Bc m g : Nat} {caps : Array Value} {ds : ByteArray} {w w' : World} {P : Nat → Prop} (h : EnvC Bd Be Br Bs Bc m g caps ds w) (k : BelowP P w w') (h1 : P Bd) (h2 : P Be) (h3 : P Bs) (h4 : P Bc) : EnvC Bd Be Br Bs Bc m g caps ds w' :=
  h.keep (k.block _ h1) (k.block _ h2) (k.block _ h3) (k.block _ h4)
theorem lit_event_ {P : Program} {ops : Array Oper} {rest : List Oper} {o : Oper} {a : Act} {Q : Exit → Act → World → Prop} {W : World} (hgd : o.guard = none) {N : Tmp} (_hd : o.dst = some N) {cs : Array Value} {t : TypeId} (v : Nat → Value)
    (hrun : (execOp a.eval o).run P W = .ok (.value (v W.heap.size)) (W.alloc (.cells cs t (0, 0))))
    (h : ∀ g, g = W.heap.size → ∀ w1, w1.heap[g]? = some (.cells cs t (0, 0)) → Below W.heap.size W w1 → wpList P ops Q rest (a.put o.dst (v g)) w1) : wpList P ops Q (o :: rest) a W :=
  Kd.event_run hgd hrun (h _ rfl _ (blk_new W _) (below_alloc (Below.refl _ _) _))
theorem take_set_ (l : List Int) (p : Nat) (s : Int) (h : p < l.length) : (l.set p s).take (p + 1) = l.take p ++ [s] := by
  rw [List.take_succ_eq_append_getElem (by rw [List.length_set]; exact h), List.getElem_set_self, List.take_set_of_le (Nat.le_refl p)]
theorem take_less_ {l pre : List Int} {p : Nat} {s : Int} (h : l.take (p + 1) = pre ++ [s]) (hp : pre.length = p) : l.take p = pre := by
  have := congrArg (List.take p) h
  rw [List.take_take, Nat.min_eq_left (Nat.le_succ p), ← hp, List.take_left'] at this
  · rw [← hp]; exact this
  · rfl
theorem roundsT_no_ {σ : Type} {g : Int → σ → σ × Bool} {s : Int} {l : List Int} {st st2 : σ} (h : g s st = (st2, false)) : roundsT g (s :: l) st = (st2, false) := by simp [roundsT, h]
theorem roundsT_yes_ {σ : Type} {g : Int → σ → σ × Bool} {s : Int} {l : List Int} {st st2 : σ} (h : g s st = (st2, true)) : roundsT g (s :: l) st = roundsT g l st2 := by simp [roundsT, h]
def sgsT : List Int := [42, 43, 45, 0]
theorem sgs_at_ (j : Nat) (hj : j < 4) : ∃ s, sgsT.drop j = s :: sgsT.drop (j + 1) ∧ (#[.int .u8 42, .int .u8 43, .int .u8 45, .int .u8 0] : Array Value)[j]? = some (.int .u8 s) := by
  match j, hj with
  | 0, _ => exact ⟨42, rfl, rfl⟩
  | 1, _ => exact ⟨43, rfl, rfl⟩
  | 2, _ => exact ⟨45, rfl, rfl⟩
  | 3, _ => exact ⟨0, rfl, rfl⟩
theorem rowB_zeros_ (w : World) (m : Nat) (e : TypeId) : RowB (w.alloc (.cells (madeCells (Value.int .u8 0).cells (m * 1)) e)) w.heap.size m (List.replicate m 0) := by
  refine ⟨by simp, by simp, fun j hj => ?_, fun j hj => ?_⟩
  · rw [World.cell?_alloc_mark]
    simp [madeCells, Value.cells, rd, hj, Nat.mod_one]
  · rw [World.frozen?_alloc_mark]
    simp

theorem make_event_ {P : Program} {ops : Array Oper} {rest : List Oper} {o : Oper} {a : Act} {Q : Exit → Act → World → Prop} {W : World} (e : TypeId) (hgd : o.guard = none) {N : Tmp} (_hd : o.dst = some N) (t : TypeId) (x y : Operand) (ho : o.op = .makeSlice t x y) (m : Nat) (hx : a.eval x = .int .i64 (m : Int)) (hy : a.eval y = .int .i64 (m : Int))
    (ht : P.underlying t = some (.slice e)) (hinfo : (P.info? e).map (fun i => (i.zero, i.size, i.bytes)) = some (some (.int .u8 0), 1, 1)) (hm : m ≤ 1000)
    (h : ∀ g, g = W.heap.size → ∀ w1, RowB w1 g m (List.replicate m 0) → Below W.heap.size W w1 → wpList P ops Q rest (a.put o.dst (.slice (some ⟨g, 0, none⟩) m m)) w1) : wpList P ops Q (o :: rest) a W := by
  obtain ⟨i, hi, hzz⟩ := Option.map_eq_some_iff.1 hinfo
  simp only [Prod.mk.injEq] at hzz
  obtain ⟨hz, h1, h2⟩ := hzz
  have hr := run_make (P := P) (w := W) t e i (.int .u8 0) ht hi hz .i64 .i64 (m : Int) (m : Int) (by omega) (by omega) (by rw [h2]; omega) (by omega)
  simp only [Int.toNat_natCast] at hr
  rw [h1] at hr
  refine Kd.event_run hgd ?_ (h _ rfl _ (rowB_zeros_ W m e) (below_alloc (Below.refl _ _) _))
  simp [execOp, ho, hx, hy, hr]
def roundsG {σ : Type} (g : Int → σ → Prop) (h : Int → σ → σ × Bool) : List Int → σ → Prop
  | [], _ => True
  | s :: l, st => g s st ∧ ((h s st).2 = true → roundsG g h l (h s st).1)
def dfsG {σ : Type} (G : σ → Int → Prop) (f : σ → List Int → Int → σ × Bool) (ds : ByteArray) : Nat → Nat → List Int → Int × Int × Int → σ → Prop
  | 0, _, _, r, st => G st (valT r)
  | d + 1, i, pre, r, st => roundsG (fun s st => dfsG G f ds d (i + 1) (pre ++ [s]) (onT r s (bt ds (i : Int))) st) (fun s st => dfsT f ds d (i + 1) (pre ++ [s]) (onT r s (bt ds (i : Int))) st) [42, 43, 45, 0] st
set_option maxHeartbeats 8000000 in
set_option maxRecDepth 100000 in
theorem choose_leaf3 {σ : Type} (ds : ByteArray) (Bd Be Br Bs Bc m g : Nat) (caps : Array Value) (I : (Nat → Prop) → σ → World → Prop) (f : σ → List Int → Int → σ × Bool) (G : σ → Int → Prop)
    (eg : ∀ args w, (callFunc g args).run Try.prog w = .ok (.enter g args) w)
    (hgo : ∀ (P : Nat → Prop) (w : World) (sg : List Int) (st : σ) (v : Int), (∀ k, P k → k < w.heap.size) → P Br → RowB w Br m sg → I P st w → G st v → Calls Try.prog g (#[.slice (some ⟨Br, 0, none⟩) m m, .int .i64 v] ++ caps) w fun e w' => e = .returned (.bool (f st sg v).2) ∧ I P (f st sg v).1 w' ∧ BelowP P w w')
    (hmono : ∀ (P Q : Nat → Prop) (st : σ) (w : World), (∀ k, Q k → P k ∨ w.heap.size ≤ k) → I P st w → I Q st w)
    (hstab : ∀ (P : Nat → Prop) (st : σ) (w w' : World), I P st w → (∀ k, k < w.heap.size → k ≠ Br → w'.heap[k]? = w.heap[k]?) → w.heap.size ≤ w'.heap.size → I P st w')
    (P : Nat → Prop) (w : World) (row : List Int) (r1 r2 r3 : Int) (st : σ) (hP : ∀ k, P k → k < w.heap.size) (pd : P Bd) (pe : P Be) (pr : P Br) (ps : P Bs) (pc : P Bc) (hE : EnvC Bd Be Br Bs Bc m g caps ds w) (hR : RowB w Br m row) (hI : I P st w) (hG : G st (valT (r1, r2, r3))) :
    Calls Try.prog 46 #[.int .i64 (ds.size : Int), .agg #[.int .i64 r1, .int .i64 r2, .int .i64 r3], .pointer (some ⟨Bd, 0, none⟩), .pointer (some ⟨Be, 0, none⟩), .pointer (some ⟨Bs, 0, none⟩), .pointer (some ⟨Bc, 0, none⟩)] w fun e w' =>
      e = .returned (.bool (f st row (valT (r1, r2, r3))).2) ∧ I P (f st row (valT (r1, r2, r3))).1 w' ∧ BelowP P w w' := by
  have hu := Try.underlying56
  have HE := Aside0.mk hE
  have HR := Aside0.mk hR
  have HI := Aside0.mk hI
  have HGG := Aside0.mk hG
  clear hG
  have HP := Aside0.mk hP
  have HPS := Aside0.mk (And.intro pd (And.intro pe (And.intro pr (And.intro ps pc))))
  clear hE hR hI hP pd pe pr ps pc
  have HGO := Aside0.mk hgo
  have HST := Aside0.mk hstab
  have HMO := Aside0.mk hmono
  clear hgo hstab hmono
  go_enter Try.func46, Try.ntmps46
  go_wp2_with ((with_reducible refine gate_dst (N := 7) rfl ?_); refine box_event ?hg (N := 7) ?hd (cs := #[.int .i64 r1, .int .i64 r2, .int .i64 r3]) (t := 56) ?hr ?_; (case hd => rfl); (case hg => rfl); (case hr => first | (go_simp; done) | (go_simp; rfl)); intro gb hg w2 hbox hb; have HB2 := Aside0.mk hb; have HBP := Aside0.mk (belowP_of hb HP.out); have HE2 := Aside0.mk (HE.out.keepP HBP.out HPS.out.1 HPS.out.2.1 HPS.out.2.2.2.1 HPS.out.2.2.2.2); have hcd := HE2.out.d; have hce := HE2.out.e; have hcs := HE2.out.s; have hb0 : w2.cell? ⟨gb, 0, none⟩ = some (.int .i64 r1) := (blk_cell hbox 0).trans rfl; have hb1 : w2.cell? ⟨gb, 1, none⟩ = some (.int .i64 r2) := (blk_cell hbox 1).trans rfl; have hb2 : w2.cell? ⟨gb, 2, none⟩ = some (.int .i64 r3) := (blk_cell hbox 2).trans rfl; have HG := Aside0.mk hg; have HBX := Aside0.mk hbox; clear hb hg hbox)
  have HR2 := Aside0.mk (rowB_block HR.out (HBP.out.block _ HPS.out.2.2.1))
  have HI1 := Aside0.mk (HMO.out P (fun k => P k ∨ k = gb) st w (fun k hk => hk.imp id (fun e => by rw [e, HG.out]; exact Nat.le_refl _)) HI.out)
  have HP2 := Aside0.mk (show ∀ k, (P k ∨ k = gb) → k < w2.heap.size from fun k hk => hk.elim (fun h => Nat.lt_of_lt_of_le (HP.out k h) HB2.out.size) (fun e => by rw [e]; exact blk_lt HBX.out))
  go_region_held3 (fun w' => w'.cell? ⟨Be, 0, none⟩ = some (.func (.func g) #[] caps) ∧ w'.cell? ⟨Bs, 0, none⟩ = some (.slice (some ⟨Br, 0, none⟩) m m) ∧ w'.cell? ⟨gb, 0, none⟩ = some (.int .i64 r1) ∧ w'.cell? ⟨gb, 1, none⟩ = some (.int .i64 r2) ∧ w'.cell? ⟨gb, 2, none⟩ = some (.int .i64 r3))
    (first | exact ⟨hce, hcs, hb0, hb1, hb2⟩ | exact hS3 | exact hS4)
    (first | (go_at_call 47; refine (impl_reckoner_value.calls r1 r2 r3 _ _ (val_some_ (r1, r2, r3))).mono ?_; rintro e w3 ⟨rfl, hb3⟩; have hb3' : Below w2.heap.size w2 w3 := ⟨hb3.os, hb3.tape, hb3.output, hb3.size, hb3.block⟩; clear hb3; have hS3 := And.intro (below_cell_ hb3' hce) (And.intro (below_cell_ hb3' hcs) (And.intro (below_cell_ hb3' hb0) (And.intro (below_cell_ hb3' hb1) (below_cell_ hb3' hb2)))); have HB3 := Aside0.mk hb3'; clear hb3') | (go_at_fn g; refine (HGO.out (fun k => P k ∨ k = gb) w3 row st _ (fun k hk => Nat.lt_of_lt_of_le (HP2.out k hk) HB3.out.size) (.inl HPS.out.2.2.1) (rowB_below HR2.out HB3.out) (HST.out _ st w w3 HI1.out (fun k hk _ => ((below_then HB2.out HB2.out.size HB3.out).block k hk)) (Nat.le_trans HB2.out.size HB3.out.size)) HGG.out).mono ?_; rintro e w4 ⟨rfl, hi4, hb4⟩; have hS4 := And.intro (belowP_cell_ hb4 (.inl HPS.out.2.1) hS3.1) (And.intro (belowP_cell_ hb4 (.inl HPS.out.2.2.2.1) hS3.2.1) (And.intro (belowP_cell_ hb4 (.inr rfl) hS3.2.2.1) (And.intro (belowP_cell_ hb4 (.inr rfl) hS3.2.2.2.1) (belowP_cell_ hb4 (.inr rfl) hS3.2.2.2.2)))); have HI4 := Aside0.mk hi4; have HB4 := Aside0.mk hb4; clear hi4 hb4))
  go_wp2
  go_ret
  exact ⟨rfl, HMO.out _ P _ w4 (fun k hk => .inl (.inl hk)) HI4.out, (HBP.out.trans ((belowP_of HB3.out (fun k hk => HP2.out k (.inl hk))))).trans (HB4.out.mono (fun k hk => .inl hk))⟩
set_option maxHeartbeats 8000000 in
set_option maxRecDepth 100000 in
theorem choose_calls3 {σ : Type} (ds : ByteArray) (hds : ds.size ≤ 1000) (Bd Be Br Bs Bc m g : Nat) (caps : Array Value) (I : (Nat → Prop) → σ → World → Prop) (f : σ → List Int → Int → σ × Bool) (G : σ → Int → Prop)
    (hm : m + 1 = ds.size) (hne : Bd ≠ Br ∧ Be ≠ Br ∧ Bs ≠ Br ∧ Bc ≠ Br)
    (eg : ∀ args w, (callFunc g args).run Try.prog w = .ok (.enter g args) w)
    (hgo : ∀ (P : Nat → Prop) (w : World) (sg : List Int) (st : σ) (v : Int), (∀ k, P k → k < w.heap.size) → P Br → RowB w Br m sg → I P st w → G st v → Calls Try.prog g (#[.slice (some ⟨Br, 0, none⟩) m m, .int .i64 v] ++ caps) w fun e w' => e = .returned (.bool (f st sg v).2) ∧ I P (f st sg v).1 w' ∧ BelowP P w w')
    (hmono : ∀ (P Q : Nat → Prop) (st : σ) (w : World), (∀ k, Q k → P k ∨ w.heap.size ≤ k) → I P st w → I Q st w)
    (hstab : ∀ (P : Nat → Prop) (st : σ) (w w' : World), I P st w → (∀ k, k < w.heap.size → k ≠ Br → w'.heap[k]? = w.heap[k]?) → w.heap.size ≤ w'.heap.size → I P st w') :
    ∀ (d p : Nat) (x : Int) (P : Nat → Prop) (w : World) (row pre : List Int) (r1 r2 r3 : Int) (st : σ), p + 1 + d = ds.size → x = (p : Int) + 1 → pre.length = p → row.take p = pre → (∀ k, P k → k < w.heap.size) → P Bd ∧ P Be ∧ P Br ∧ P Bs ∧ P Bc → EnvC Bd Be Br Bs Bc m g caps ds w → RowB w Br m row → I P st w → dfsG G f ds d (p + 1) pre (r1, r2, r3) st →
    Calls Try.prog 46 #[.int .i64 x, .agg #[.int .i64 r1, .int .i64 r2, .int .i64 r3], .pointer (some ⟨Bd, 0, none⟩), .pointer (some ⟨Be, 0, none⟩), .pointer (some ⟨Bs, 0, none⟩), .pointer (some ⟨Bc, 0, none⟩)] w fun e w' =>
      e = .returned (.bool (dfsT f ds d (p + 1) pre (r1, r2, r3) st).2) ∧ I P (dfsT f ds d (p + 1) pre (r1, r2, r3) st).1 w' ∧ BelowP (fun k => P k ∧ k ≠ Br) w w' ∧ ∃ row' : List Int, RowB w' Br m row' ∧ row'.take p = pre
  | 0, p, x, P, w, row, pre, r1, r2, r3, st, hpd, hx, hpl, htk, hP, hPs, hE, hR, hI, hG => by
    have e1 : x = (ds.size : Int) := by omega
    have e2 : row = pre := by rw [← htk, List.take_of_length_le (by have := hR.2.1; omega)]
    subst e1 e2
    refine (choose_leaf3 ds Bd Be Br Bs Bc m g caps I f G eg hgo hmono hstab P w row r1 r2 r3 st hP hPs.1 hPs.2.1 hPs.2.2.1 hPs.2.2.2.1 hPs.2.2.2.2 hE hR hI hG).mono ?_
    rintro e w' ⟨rfl, h1, h2⟩
    exact ⟨rfl, h1, h2.mono (fun k hk => hk.1), row, rowB_block hR (h2.block _ hPs.2.2.1), htk⟩
  | d + 1, p, x, P, w, row, pre, r1, r2, r3, st, hpd, hx, hpl, htk, hP, hPs, hE, hR, hI, hG => by
    have IH := Aside0.mk (choose_calls3 ds hds Bd Be Br Bs Bc m g caps I f G hm hne eg hgo hmono hstab d)
    subst hx
    have hu := Try.underlying56
    have HE := Aside0.mk hE
    have HR := Aside0.mk hR
    have HI := Aside0.mk hI
    have HGG := Aside0.mk (show roundsG (fun s st => dfsG G f ds d (p + 1 + 1) (pre ++ [s]) (onT (r1, r2, r3) s (bt ds ((p + 1 : Nat) : Int))) st) (fun s st => dfsT f ds d (p + 1 + 1) (pre ++ [s]) (onT (r1, r2, r3) s (bt ds ((p + 1 : Nat) : Int))) st) (sgsT.drop 0) st from hG)
    clear hG
    have HP := Aside0.mk hP
    have HPS := Aside0.mk hPs
    have HT := Aside0.mk htk
    have HL := Aside0.mk hpl
    have HD := Aside0.mk hpd
    have HNE := Aside0.mk hne
    have HM := Aside0.mk hm
    have HST := Aside0.mk hstab
    have HMO := Aside0.mk hmono
    have hlt : ((p : Int) + 1) < (ds.size : Int) := by omega
    have hnq : (((p : Int) + 1) == (ds.size : Int)) = false := beq_eq_false_iff_ne.2 (by omega)
    have hp0 : (0 : Int) ≤ (p : Int) := by omega
    have hp00 : (0 : Int) ≤ (p : Int) + 1 := by omega
    have hwr : IntKind.i64.wrap ((p : Int) + 1 + 1) = (p : Int) + 1 + 1 := by unfold IntKind.wrap; simp [IntKind.bits, IntKind.signed]; omega
    have hpm : (p : Int) < (m : Int) := by omega
    have hp1 : (p : Int) ≤ 1000 := by omega
    clear hE hR hI hP hPs htk hpl hpd hne hm hgo hstab hmono hds
    go_enter Try.func46, Try.ntmps46
    go_wp2_with (first | ((with_reducible refine gate_dst (N := 7) rfl ?_); refine box_event ?hg (N := 7) ?hd (cs := #[.int .i64 r1, .int .i64 r2, .int .i64 r3]) (t := 56) ?hr ?_; (case hd => rfl); (case hg => rfl); (case hr => first | (go_simp; done) | (go_simp; rfl)); intro gb hg w2 hbox hb; have HB2 := Aside0.mk hb; have HE2 := Aside0.mk (HE.out.keepP (belowP_of hb HP.out) HPS.out.1 HPS.out.2.1 HPS.out.2.2.2.1 HPS.out.2.2.2.2); have hcd := HE2.out.d; have HG := Aside0.mk hg; have HBX := Aside0.mk hbox; clear hb hg hbox) | ((with_reducible refine gate_dst (N := 20) rfl ?_); refine lit_event_ ?hg (N := 20) ?hd (cs := #[.int .u8 42, .int .u8 43, .int .u8 45, .int .u8 0]) (t := 5) (fun g => .slice (some ⟨g, 0, none⟩) 4 4) ?hr ?_; (case hd => rfl); (case hg => rfl); (case hr => first | (go_simp; done) | (go_simp; rfl)); intro gl hg w3 hbox hb; have HB3 := Aside0.mk hb; have HGL := Aside0.mk hg; have HBL := Aside0.mk hbox; clear hb hg hbox))
    have HB23 := Aside0.mk (below_then HB2.out HB2.out.size HB3.out)
    have HP3 := Aside0.mk (show ∀ k, (P k ∨ k = gb ∨ k = gl) → k < w3.heap.size from fun k hk => by
      rcases hk with h | h | h
      · exact Nat.lt_of_lt_of_le (HP.out k h) HB23.out.size
      · rw [h]; exact Nat.lt_of_lt_of_le (blk_lt HBX.out) HB3.out.size
      · rw [h]; exact blk_lt HBL.out)
    have HE3 := Aside0.mk (HE.out.keepP (belowP_of HB23.out HP.out) HPS.out.1 HPS.out.2.1 HPS.out.2.2.2.1 HPS.out.2.2.2.2)
    have HBX3 := Aside0.mk (blk_below HBX.out HB3.out)
    have HR3 := Aside0.mk (rowB_below HR.out HB23.out)
    have HI3 := Aside0.mk (HST.out (fun k => P k ∨ k = gb ∨ k = gl) st w w3 (HMO.out P _ st w (fun k hk => by
      rcases hk with h | h | h
      · exact .inl h
      · exact .inr (by rw [h, HG.out]; exact Nat.le_refl _)
      · exact .inr (by rw [h, HGL.out]; exact HB2.out.size)) HI.out) (fun k hk _ => HB23.out.block k hk) HB23.out.size)
    have HNB := Aside0.mk (show gb ≠ Br ∧ gl ≠ Br from ⟨fun e => by have := HP.out Br HPS.out.2.2.1; have := HG.out; omega, fun e => by have := HP.out Br HPS.out.2.2.1; have := HGL.out; have := HB2.out.size; omega⟩)
    clear HE2 HE hcd HR HI
    go_loopg [22] 4 (fun dd v22 w' => ∃ (j : Nat) (st' : σ) (row' : List Int), v22 = .int .i64 j ∧ Aside0 (j + dd = 4) ∧ Aside0 (roundsT (fun s st => dfsT f ds d (p + 1 + 1) (pre ++ [s]) (onT (r1, r2, r3) s (bt ds ((p + 1 : Nat) : Int))) st) (sgsT.drop j) st' = dfsT f ds (d + 1) (p + 1) pre (r1, r2, r3) st) ∧ Aside0 (roundsG (fun s st => dfsG G f ds d (p + 1 + 1) (pre ++ [s]) (onT (r1, r2, r3) s (bt ds ((p + 1 : Nat) : Int))) st) (fun s st => dfsT f ds d (p + 1 + 1) (pre ++ [s]) (onT (r1, r2, r3) s (bt ds ((p + 1 : Nat) : Int))) st) (sgsT.drop j) st') ∧ Aside0 (RowB w' Br m row' ∧ row'.take p = pre) ∧ Aside0 (I (fun k => P k ∨ k = gb ∨ k = gl) st' w') ∧ Aside0 (BelowP (fun k => (P k ∨ k = gb ∨ k = gl) ∧ k ≠ Br) w3 w'))
    case atStart => exact ⟨0, st, row, rfl, ⟨rfl⟩, ⟨rfl⟩, ⟨HGG.out⟩, ⟨HR3.out, HT.out⟩, HI3, ⟨BelowP.refl _ _⟩⟩
    case round =>
      obtain ⟨j, st', row', rfl, HJ, HQ, HGJ, HRW, HIW, HBW⟩ := hrel
      cases gk with
      | zero =>
        obtain rfl : j = 4 := HJ.out
        go_wp2
        go_ret
        refine ⟨by rw [← HQ.out]; rfl, by rw [← HQ.out]; exact HMO.out _ P st' _ (fun k hk => .inl (.inl hk)) HIW.out, (belowP_of HB23.out (fun k hk => HP.out k hk.1)).trans (HBW.out.mono (fun k hk => ⟨.inl hk.1, hk.2⟩)), row', HRW.out.1, HRW.out.2⟩
      | succ gk =>
        have hj4 : j < 4 := by have := HJ.out; omega
        have hj4i : (j : Int) < 4 := by omega
        have hj0 : (0 : Int) ≤ (j : Int) := by omega
        obtain ⟨s, hdr, hcj⟩ := sgs_at_ j hj4
        have HDR := Aside0.mk hdr
        have hcell : wr.cell? ⟨gl, j, none⟩ = some (.int .u8 s) := (blk_cell ((HBW.out.block gl ⟨.inr (.inr rfl), HNB.out.2⟩).trans HBL.out) j).trans hcj
        obtain ⟨o1, o2, o3, ho⟩ : ∃ o1 o2 o3, onT (r1, r2, r3) s (bt ds ((p : Int) + 1)) = (o1, o2, o3) := ⟨_, _, _, rfl⟩
        have HON := Aside0.mk (show impl_reckoner_on.f r1 r2 r3 s (bt ds ((p : Int) + 1)) = some (o1, o2, o3) by have := on_some_ (r1, r2, r3) s (bt ds ((p : Int) + 1)); rw [ho] at this; exact this)
        have hpn : p + 1 < ds.size := by have := HD.out; omega
        have hbt : ((ds[p + 1]'hpn).toNat : Int) = bt ds ((p : Int) + 1) := by
          unfold bt
          have h1 : ((p : Int) + 1).toNat = p + 1 := by omega
          rw [dif_pos (by rw [h1]; exact hpn)]
          simp only [h1]
        have HGS := Aside0.mk (show roundsG (fun s st => dfsG G f ds d (p + 1 + 1) (pre ++ [s]) (onT (r1, r2, r3) s (bt ds ((p + 1 : Nat) : Int))) st) (fun s st => dfsT f ds d (p + 1 + 1) (pre ++ [s]) (onT (r1, r2, r3) s (bt ds ((p + 1 : Nat) : Int))) st) (s :: sgsT.drop (j + 1)) st' from by rw [← hdr]; exact HGJ.out)
        have HG1 := Aside0.mk (show dfsG G f ds d (p + 1 + 1) (pre ++ [s]) (o1, o2, o3) st' from by
          have q : dfsG G f ds d (p + 1 + 1) (pre ++ [s]) (onT (r1, r2, r3) s (bt ds ((p + 1 : Nat) : Int))) st' := HGS.out.1
          rw [show ((p + 1 : Nat) : Int) = (p : Int) + 1 from rfl, ho] at q
          exact q)
        have HON2 := Aside0.mk (show impl_reckoner_on.f r1 r2 r3 s ((ds[p + 1]'hpn).toNat : Int) = some (o1, o2, o3) by rw [hbt]; exact HON.out)
        clear hbt
        obtain ⟨st2, b2, hres⟩ : ∃ st2 b2, dfsT f ds d (p + 1 + 1) (pre ++ [s]) (o1, o2, o3) st' = (st2, b2) := ⟨_, _, rfl⟩
        have HRES := Aside0.mk (show dfsT f ds d (p + 1 + 1) (pre ++ [s]) (onT (r1, r2, r3) s (bt ds ((p + 1 : Nat) : Int))) st' = (st2, b2) by rw [show ((p + 1 : Nat) : Int) = (p : Int) + 1 from rfl, ho]; exact hres)
        have HREC := Aside0.mk (show ∀ (x : Int) (W : World), x = ((p + 1 : Nat) : Int) + 1 → EnvC Bd Be Br Bs Bc m g caps ds W → RowB W Br m (row'.set p s) → I (fun k => P k ∨ k = gb ∨ k = gl) st' W → w3.heap.size ≤ W.heap.size → _ from fun x W hx h1 h2 h3 h4 => by
          have := IH.out (p + 1) x (fun k => P k ∨ k = gb ∨ k = gl) W (row'.set p s) (pre ++ [s]) o1 o2 o3 st' (by have := HD.out; omega) hx (by rw [List.length_append, HL.out]; rfl) (by rw [take_set_ row' p s (by have := HRW.out.1.2.1; omega), HRW.out.2]) (fun k hk => Nat.lt_of_lt_of_le (HP3.out k hk) h4) ⟨.inl HPS.out.1, .inl HPS.out.2.1, .inl HPS.out.2.2.1, .inl HPS.out.2.2.2.1, .inl HPS.out.2.2.2.2⟩ h1 h2 h3 HG1.out
          rw [hres] at this
          exact this)
        have HE5 := Aside0.mk ((HE3.out.keepP HBW.out ⟨.inl HPS.out.1, HNE.out.1⟩ ⟨.inl HPS.out.2.1, HNE.out.2.1⟩ ⟨.inl HPS.out.2.2.2.1, HNE.out.2.2.1⟩ ⟨.inl HPS.out.2.2.2.2, HNE.out.2.2.2⟩))
        have hcsr := HE5.out.s
        have HB5 := Aside0.mk (belowP_set (P := fun k => (P k ∨ k = gb ∨ k = gl) ∧ k ≠ Br) (BelowP.refl _ wr) (b := Br) (fun h => h.2 rfl) p (.int .u8 s))
        have HBW5 := Aside0.mk (HBW.out.trans HB5.out)
        have HE6 := Aside0.mk ((HE3.out.keepP HBW5.out ⟨.inl HPS.out.1, HNE.out.1⟩ ⟨.inl HPS.out.2.1, HNE.out.2.1⟩ ⟨.inl HPS.out.2.2.2.1, HNE.out.2.2.1⟩ ⟨.inl HPS.out.2.2.2.2, HNE.out.2.2.2⟩))
        have HBX5 := Aside0.mk ((HBW5.out.block gb ⟨.inr (.inl rfl), HNB.out.1⟩).trans HBX3.out)
        have hbr := HRW.out.1.2.2.1 p (by omega)
        have hfr := HRW.out.1.2.2.2 p (by omega)
        have HR5 := Aside0.mk (rowB_set HRW.out.1 p (by omega) s)
        have HI5 := Aside0.mk (HST.out _ st' wr (wr.setCell ⟨Br, p, none⟩ (.int .u8 s)) HIW.out (fun k _ hk => Below.heap_setCell wr _ _ k (show k ≠ Br from hk)) (by simp [World.setCell]))
        have hcd5 := HE6.out.d
        have hcc5 := HE6.out.c
        have hg0 := (blk_cell HBX5.out 0).trans (show _ = some (Value.int .i64 r1) from rfl)
        have hg1 := (blk_cell HBX5.out 1).trans (show _ = some (Value.int .i64 r2) from rfl)
        have hg2 := (blk_cell HBX5.out 2).trans (show _ = some (Value.int .i64 r3) from rfl)
        clear hres ho hdr hcj
        have HP5 := Aside0.mk (show ∀ k, (P k ∨ k = gb ∨ k = gl) → k < (wr.setCell ⟨Br, p, none⟩ (.int .u8 s)).heap.size from fun k hk => Nat.lt_of_lt_of_le (HP3.out k hk) HBW5.out.size)
        cases b2 with
        | false =>
          go_wp2
          go_region_held3 (fun w' => w'.cell? ⟨Bc, 0, none⟩ = some (.func (.func 46) #[] #[.pointer (some ⟨Bd, 0, none⟩), .pointer (some ⟨Be, 0, none⟩), .pointer (some ⟨Bs, 0, none⟩), .pointer (some ⟨Bc, 0, none⟩)]) ∧ w'.cell? ⟨Bd, 0, none⟩ = some (.string ds) ∧ w'.cell? ⟨gb, 0, none⟩ = some (.int .i64 r1) ∧ w'.cell? ⟨gb, 1, none⟩ = some (.int .i64 r2) ∧ w'.cell? ⟨gb, 2, none⟩ = some (.int .i64 r3))
            (first | exact ⟨hcc5, hcd5, hg0, hg1, hg2⟩ | exact hS6 | exact hS7)
            (first | (go_at_call 48; refine (impl_reckoner_on.calls r1 r2 r3 s _ o1 o2 o3 _ HON2.out).mono ?_; rintro e w6 ⟨rfl, hb6⟩; have hb6' : Below (wr.setCell ⟨Br, p, none⟩ (.int .u8 s)).heap.size (wr.setCell ⟨Br, p, none⟩ (.int .u8 s)) w6 := ⟨hb6.os, hb6.tape, hb6.output, hb6.size, hb6.block⟩; clear hb6; have hS6 := And.intro (below_cell_ hb6' hcc5) (And.intro (below_cell_ hb6' hcd5) (And.intro (below_cell_ hb6' hg0) (And.intro (below_cell_ hb6' hg1) (below_cell_ hb6' hg2)))); have HB6 := Aside0.mk hb6'; clear hb6') | (go_at_call 46; refine (HREC.out ((p : Int) + 1 + 1) w6 rfl (HE6.out.keepP (belowP_of HB6.out HP5.out) (.inl HPS.out.1) (.inl HPS.out.2.1) (.inl HPS.out.2.2.2.1) (.inl HPS.out.2.2.2.2)) (rowB_below HR5.out HB6.out) (HST.out _ st' _ w6 HI5.out (fun k hk _ => HB6.out.block k hk) HB6.out.size) (Nat.le_trans HBW5.out.size HB6.out.size)).mono ?_; rintro e w7 ⟨rfl, hi7, hb7, row7, hr7, ht7⟩; have hS7 := And.intro (belowP_cell_ hb7 ⟨.inl HPS.out.2.2.2.2, HNE.out.2.2.2⟩ hS6.1) (And.intro (belowP_cell_ hb7 ⟨.inl HPS.out.1, HNE.out.1⟩ hS6.2.1) (And.intro (belowP_cell_ hb7 ⟨.inr (.inl rfl), HNB.out.1⟩ hS6.2.2.1) (And.intro (belowP_cell_ hb7 ⟨.inr (.inl rfl), HNB.out.1⟩ hS6.2.2.2.1) (belowP_cell_ hb7 ⟨.inr (.inl rfl), HNB.out.1⟩ hS6.2.2.2.2)))); have HI7 := Aside0.mk hi7; have HB7 := Aside0.mk hb7; have HR7 := Aside0.mk hr7; have HT7 := Aside0.mk ht7; clear hi7 hb7 hr7 ht7))
          have HW7 := Aside0.mk ((HBW5.out.trans (belowP_of HB6.out (fun k hk => HP5.out k hk.1))).trans HB7.out)
          have HTK := Aside0.mk (show row7.take p = pre from take_less_ HT7.out HL.out)
          have HF := Aside0.mk (HQ.out.symm.trans ((congrArg (fun l => roundsT _ l st') HDR.out).trans (roundsT_no_ HRES.out)))
          go_wp2
          go_ret
          refine ⟨by rw [HF.out]; rfl, by rw [HF.out]; exact HMO.out _ P st2 _ (fun k hk => .inl (.inl hk)) HI7.out, (belowP_of HB23.out (fun k hk => HP.out k hk.1)).trans (HW7.out.mono (fun k hk => ⟨.inl hk.1, hk.2⟩)), row7, HR7.out, HTK.out⟩
        | true =>
          go_wp2
          go_region_held3 (fun w' => w'.cell? ⟨Bc, 0, none⟩ = some (.func (.func 46) #[] #[.pointer (some ⟨Bd, 0, none⟩), .pointer (some ⟨Be, 0, none⟩), .pointer (some ⟨Bs, 0, none⟩), .pointer (some ⟨Bc, 0, none⟩)]) ∧ w'.cell? ⟨Bd, 0, none⟩ = some (.string ds) ∧ w'.cell? ⟨gb, 0, none⟩ = some (.int .i64 r1) ∧ w'.cell? ⟨gb, 1, none⟩ = some (.int .i64 r2) ∧ w'.cell? ⟨gb, 2, none⟩ = some (.int .i64 r3))
            (first | exact ⟨hcc5, hcd5, hg0, hg1, hg2⟩ | exact hS6 | exact hS7)
            (first | (go_at_call 48; refine (impl_reckoner_on.calls r1 r2 r3 s _ o1 o2 o3 _ HON2.out).mono ?_; rintro e w6 ⟨rfl, hb6⟩; have hb6' : Below (wr.setCell ⟨Br, p, none⟩ (.int .u8 s)).heap.size (wr.setCell ⟨Br, p, none⟩ (.int .u8 s)) w6 := ⟨hb6.os, hb6.tape, hb6.output, hb6.size, hb6.block⟩; clear hb6; have hS6 := And.intro (below_cell_ hb6' hcc5) (And.intro (below_cell_ hb6' hcd5) (And.intro (below_cell_ hb6' hg0) (And.intro (below_cell_ hb6' hg1) (below_cell_ hb6' hg2)))); have HB6 := Aside0.mk hb6'; clear hb6') | (go_at_call 46; refine (HREC.out ((p : Int) + 1 + 1) w6 rfl (HE6.out.keepP (belowP_of HB6.out HP5.out) (.inl HPS.out.1) (.inl HPS.out.2.1) (.inl HPS.out.2.2.2.1) (.inl HPS.out.2.2.2.2)) (rowB_below HR5.out HB6.out) (HST.out _ st' _ w6 HI5.out (fun k hk _ => HB6.out.block k hk) HB6.out.size) (Nat.le_trans HBW5.out.size HB6.out.size)).mono ?_; rintro e w7 ⟨rfl, hi7, hb7, row7, hr7, ht7⟩; have hS7 := And.intro (belowP_cell_ hb7 ⟨.inl HPS.out.2.2.2.2, HNE.out.2.2.2⟩ hS6.1) (And.intro (belowP_cell_ hb7 ⟨.inl HPS.out.1, HNE.out.1⟩ hS6.2.1) (And.intro (belowP_cell_ hb7 ⟨.inr (.inl rfl), HNB.out.1⟩ hS6.2.2.1) (And.intro (belowP_cell_ hb7 ⟨.inr (.inl rfl), HNB.out.1⟩ hS6.2.2.2.1) (belowP_cell_ hb7 ⟨.inr (.inl rfl), HNB.out.1⟩ hS6.2.2.2.2)))); have HI7 := Aside0.mk hi7; have HB7 := Aside0.mk hb7; have HR7 := Aside0.mk hr7; have HT7 := Aside0.mk ht7; clear hi7 hb7 hr7 ht7))
          have HW7 := Aside0.mk ((HBW5.out.trans (belowP_of HB6.out (fun k hk => HP5.out k hk.1))).trans HB7.out)
          have HTK := Aside0.mk (show row7.take p = pre from take_less_ HT7.out HL.out)
          have HG2 := Aside0.mk (show roundsG (fun s st => dfsG G f ds d (p + 1 + 1) (pre ++ [s]) (onT (r1, r2, r3) s (bt ds ((p + 1 : Nat) : Int))) st) (fun s st => dfsT f ds d (p + 1 + 1) (pre ++ [s]) (onT (r1, r2, r3) s (bt ds ((p + 1 : Nat) : Int))) st) (sgsT.drop (j + 1)) st2 from by
            have q : (dfsT f ds d (p + 1 + 1) (pre ++ [s]) (onT (r1, r2, r3) s (bt ds ((p + 1 : Nat) : Int))) st').2 = true → roundsG (fun s st => dfsG G f ds d (p + 1 + 1) (pre ++ [s]) (onT (r1, r2, r3) s (bt ds ((p + 1 : Nat) : Int))) st) (fun s st => dfsT f ds d (p + 1 + 1) (pre ++ [s]) (onT (r1, r2, r3) s (bt ds ((p + 1 : Nat) : Int))) st) (sgsT.drop (j + 1)) (dfsT f ds d (p + 1 + 1) (pre ++ [s]) (onT (r1, r2, r3) s (bt ds ((p + 1 : Nat) : Int))) st').1 := HGS.out.2
            rw [HRES.out] at q
            exact q rfl)
          have HF := Aside0.mk (((congrArg (fun l => roundsT _ l st') HDR.out).trans (roundsT_yes_ HRES.out)).symm.trans HQ.out)
          go_wp2
          go_roundg gk
          case measure => omega
          case rel => exact ⟨j + 1, st2, row7, by go_num, ⟨by have := HJ.out; omega⟩, HF, HG2, ⟨HR7.out, HTK.out⟩, HI7, HW7⟩
set_option maxHeartbeats 8000000 in
set_option maxRecDepth 100000 in
theorem signings_calls3 {σ : Type} (ds : ByteArray) (hd1 : 1 ≤ ds.size) (hds : ds.size ≤ 1000) (g : Nat) (caps : Array Value) (I : Nat → (Nat → Prop) → σ → World → Prop) (f : σ → List Int → Int → σ × Bool) (G : σ → Int → Prop)
    (eg : ∀ args w, (callFunc g args).run Try.prog w = .ok (.enter g args) w) (w : World) (P : Nat → Prop) (st : σ)
    (hgo : ∀ Br, w.heap.size ≤ Br → ∀ (P : Nat → Prop) (w : World) (sg : List Int) (st : σ) (v : Int), (∀ k, P k → k < w.heap.size) → P Br → RowB w Br (ds.size - 1) sg → I Br P st w → G st v → Calls Try.prog g (#[.slice (some ⟨Br, 0, none⟩) (ds.size - 1) (ds.size - 1), .int .i64 v] ++ caps) w fun e w' => e = .returned (.bool (f st sg v).2) ∧ I Br P (f st sg v).1 w' ∧ BelowP P w w')
    (hmono : ∀ Br (P Q : Nat → Prop) (st : σ) (w : World), (∀ k, Q k → P k ∨ w.heap.size ≤ k) → I Br P st w → I Br Q st w)
    (hstab : ∀ Br (P : Nat → Prop) (st : σ) (w w' : World), I Br P st w → (∀ k, k < w.heap.size → k ≠ Br → w'.heap[k]? = w.heap[k]?) → w.heap.size ≤ w'.heap.size → I Br P st w')
    (hP : ∀ k, P k → k < w.heap.size) (hI : ∀ Br, w.heap.size ≤ Br → I Br P st w) (hG : dfsG G f ds (ds.size - 1) 1 [] (0, 1, (bt ds 0 - 48) % 256) st) :
    Calls Try.prog 38 #[.string ds, .func (.func g) #[] caps] w fun e w' =>
      e = .returned (.bool (dfsT f ds (ds.size - 1) 1 [] (0, 1, (bt ds 0 - 48) % 256) st).2) ∧ (∃ Br, w.heap.size ≤ Br ∧ I Br P (dfsT f ds (ds.size - 1) 1 [] (0, 1, (bt ds 0 - 48) % 256) st).1 w') ∧ BelowP P w w' := by
  obtain ⟨m, hm⟩ : ∃ m, m + 1 = ds.size := ⟨ds.size - 1, by omega⟩
  have hm2 : ds.size - 1 = m := by omega
  rw [hm2] at hgo hG ⊢
  have h00 : 0 < ds.size := hd1
  have hbt : ((ds[0]'h00).toNat : Int) = bt ds 0 := by
    unfold bt
    rw [dif_pos (show (0 : Int).toNat < ds.size from h00)]
    rfl
  rw [← hbt] at hG ⊢
  clear hbt
  have hu := Try.underlying56
  have HI := Aside0.mk hI
  have HGG := Aside0.mk hG
  clear hG
  have HP := Aside0.mk hP
  have HM := Aside0.mk hm
  have HST := Aside0.mk hstab
  have HMO := Aside0.mk hmono
  have HGO := Aside0.mk hgo
  have HDS := Aside0.mk hds
  have hm1 : m ≤ 1000 := by omega
  have hsz : ((ds.size : Int)) - 1 = (m : Int) := by omega
  have h0 : (0 : Int) < (ds.size : Int) := by omega
  have hmf : ∀ (fn : Fn) (first cap : Array Value) (w : World), (Instr.makeFunc fn first cap).run Try.prog w = .ok (.func fn first cap) w := fun _ _ _ _ => rfl
  clear hI hP hm hstab hmono hgo hds hd1 hm2
  go_enter Try.func38, Try.ntmps38
  go_wp2_with (first | ((with_reducible refine gate_dst (N := 2) rfl ?_); refine box_event ?hg (N := 2) ?hd (cs := #[.string ds]) (t := 9) ?hr ?_; (case hd => rfl); (case hg => rfl); (case hr => first | (go_simp; done) | (go_simp; rfl)); intro Bd hg1 w1 hx1 hb1; have HG1 := Aside0.mk hg1; have HX1 := Aside0.mk hx1; have HB1 := Aside0.mk hb1; clear hg1 hx1 hb1) | ((with_reducible refine gate_dst (N := 3) rfl ?_); refine box_event ?hg (N := 3) ?hd (cs := #[.func (.func g) #[] caps]) (t := 48) ?hr ?_; (case hd => rfl); (case hg => rfl); (case hr => first | (go_simp; done) | (go_simp; rfl)); intro Be hg2 w2 hx2 hb2; have hcd : w2.cell? ⟨Bd, 0, none⟩ = some (.string ds) := (blk_cell (blk_below HX1.out hb2) 0).trans rfl; have HG2 := Aside0.mk hg2; have HX2 := Aside0.mk hx2; have HB2 := Aside0.mk hb2; clear hg2 hx2 hb2) | ((with_reducible refine gate_dst (N := 10) rfl ?_); refine make_event_ 5 ?hg (N := 10) ?hd 46 _ _ rfl m ?hx ?hy Try.underlying46 info5 hm1 ?_; (case hd => rfl); (case hg => rfl); (case hx => first | rfl | (go_simp; done) | (go_simp; rfl)); (case hy => first | rfl | (go_simp; done) | (go_simp; rfl)); intro Br hg3 w3 hx3 hb3; have HG3 := Aside0.mk hg3; have HX3 := Aside0.mk hx3; have HB3 := Aside0.mk hb3; clear hg3 hx3 hb3) | ((with_reducible refine gate_dst (N := 5) rfl ?_); refine box_event ?hg (N := 5) ?hd (cs := #[.slice none 0 0]) (t := 46) ?hr ?_; (case hd => rfl); (case hg => rfl); (case hr => first | (go_simp; done) | (go_simp; rfl)); intro Bs hg4 w4 hx4 hb4; have hcs0 : w4.cell? ⟨Bs, 0, none⟩ = some (.slice none 0 0) := (blk_cell hx4 0).trans rfl; have hfs0 := blk_frozen hx4 0; have HG4 := Aside0.mk hg4; have HX4 := Aside0.mk hx4; have HB4 := Aside0.mk hb4; clear hg4 hx4 hb4) | ((with_reducible refine gate_dst (N := 6) rfl ?_); refine box_event ?hg (N := 6) ?hd (cs := #[.nilFunc]) (t := 54) ?hr ?_; (case hd => rfl); (case hg => rfl); (case hr => first | (go_simp; done) | (go_simp; rfl)); intro Bc hg5 w5 hx5 hb5; have hcc0 : w5.cell? ⟨Bc, 0, none⟩ = some .nilFunc := (blk_cell hx5 0).trans rfl; have hfc0 := blk_frozen hx5 0; have HG5 := Aside0.mk hg5; have HX5 := Aside0.mk hx5; have HB5 := Aside0.mk hb5; clear hg5 hx5 hb5))
  have HXs := Aside0.mk (blk_put (cs' := #[.slice (some ⟨Br, 0, none⟩) m m]) HX4.out 0 (.slice (some ⟨Br, 0, none⟩) m m) rfl)
  have HXc := Aside0.mk (blk_put (cs' := #[.func (.func 46) #[] #[.pointer (some ⟨Bd, 0, none⟩), .pointer (some ⟨Be, 0, none⟩), .pointer (some ⟨Bs, 0, none⟩), .pointer (some ⟨Bc, 0, none⟩)]]) HX5.out 0 (.func (.func 46) #[] #[.pointer (some ⟨Bd, 0, none⟩), .pointer (some ⟨Be, 0, none⟩), .pointer (some ⟨Bs, 0, none⟩), .pointer (some ⟨Bc, 0, none⟩)]) rfl)
  have HN := Aside0.mk (show Bd = w.heap.size ∧ w.heap.size < w1.heap.size ∧ Be = w1.heap.size ∧ w1.heap.size < w2.heap.size ∧ Br = w2.heap.size ∧ w2.heap.size < w3.heap.size ∧ Bs = w3.heap.size ∧ w3.heap.size < w4.heap.size ∧ Bc = w4.heap.size ∧ w4.heap.size < w5.heap.size by
    have e5 : Bc = w4.heap.size := by rw [HG5.out]; simp [World.setCell]
    have l1 := blk_lt HX1.out
    have l2 := blk_lt HX2.out
    have l3 := HX3.out.1
    have l4 := blk_lt HX4.out
    have l5 := blk_lt HX5.out
    have := HG1.out; have := HG2.out; have := HG3.out; have := HG4.out
    omega)
  have HK := Aside0.mk (show ∀ k, k < w4.heap.size → k ≠ Bs → ∀ v, (w5.setCell ⟨Bc, 0, none⟩ v).heap[k]? = w4.heap[k]? from fun k hk hs v => by
    rw [Below.heap_setCell _ _ _ _ (show k ≠ Bc by have := HN.out; omega), HB5.out.block k (by simpa [World.setCell] using hk), Below.heap_setCell _ _ _ _ (show k ≠ Bs from hs)])
  have HB04 := Aside0.mk (below_then (below_then (below_then HB1.out HB1.out.size HB2.out) (Nat.le_trans HB1.out.size HB2.out.size) HB3.out) (Nat.le_trans HB1.out.size (Nat.le_trans HB2.out.size HB3.out.size)) HB4.out)
  have HB4s := Aside0.mk (show Below w.heap.size w (w4.setCell ⟨Bs, 0, none⟩ (.slice (some ⟨Br, 0, none⟩) m m)) from HB04.out.setCell (show w.heap.size ≤ Bs by have := HN.out; omega) _)
  have HBW := Aside0.mk (show Below w.heap.size w (w5.setCell ⟨Bc, 0, none⟩ (.func (.func 46) #[] #[.pointer (some ⟨Bd, 0, none⟩), .pointer (some ⟨Be, 0, none⟩), .pointer (some ⟨Bs, 0, none⟩), .pointer (some ⟨Bc, 0, none⟩)])) from (below_then HB4s.out HB4s.out.size HB5.out).setCell (show w.heap.size ≤ Bc by have := HN.out; omega) _)
  have hcd6 := (blk_cell ((HK.out Bd (by have := HN.out; omega) (by have := HN.out; omega) (.func (.func 46) #[] #[.pointer (some ⟨Bd, 0, none⟩), .pointer (some ⟨Be, 0, none⟩), .pointer (some ⟨Bs, 0, none⟩), .pointer (some ⟨Bc, 0, none⟩)])).trans (blk_below (blk_below (blk_below HX1.out HB2.out) HB3.out) HB4.out)) 0).trans (show _ = some (Value.string ds) from rfl)
  have hce6 := (blk_cell ((HK.out Be (by have := HN.out; omega) (by have := HN.out; omega) (.func (.func 46) #[] #[.pointer (some ⟨Bd, 0, none⟩), .pointer (some ⟨Be, 0, none⟩), .pointer (some ⟨Bs, 0, none⟩), .pointer (some ⟨Bc, 0, none⟩)])).trans (blk_below (blk_below HX2.out HB3.out) HB4.out)) 0).trans (show _ = some (Value.func (.func g) #[] caps) from rfl)
  have hcs6 := (blk_cell ((Below.heap_setCell w5 ⟨Bc, 0, none⟩ (.func (.func 46) #[] #[.pointer (some ⟨Bd, 0, none⟩), .pointer (some ⟨Be, 0, none⟩), .pointer (some ⟨Bs, 0, none⟩), .pointer (some ⟨Bc, 0, none⟩)]) Bs (show Bs ≠ Bc by have := HN.out; omega)).trans (blk_below HXs.out HB5.out)) 0).trans (show _ = some (Value.slice (some ⟨Br, 0, none⟩) m m) from rfl)
  have hcc6 := (blk_cell HXc.out 0).trans (show _ = some (Value.func (.func 46) #[] #[.pointer (some ⟨Bd, 0, none⟩), .pointer (some ⟨Be, 0, none⟩), .pointer (some ⟨Bs, 0, none⟩), .pointer (some ⟨Bc, 0, none⟩)]) from rfl)
  have HE6 := Aside0.mk (show EnvC Bd Be Br Bs Bc m g caps ds _ from ⟨hcd6, hce6, hcs6, hcc6⟩)
  have HR6 := Aside0.mk (rowB_block (rowB_below HX3.out HB4.out) (HK.out Br (by have := HN.out; omega) (by have := HN.out; omega) (.func (.func 46) #[] #[.pointer (some ⟨Bd, 0, none⟩), .pointer (some ⟨Be, 0, none⟩), .pointer (some ⟨Bs, 0, none⟩), .pointer (some ⟨Bc, 0, none⟩)])))
  have HBr := Aside0.mk (show w.heap.size ≤ Br by have := HN.out; omega)
  have HI6 := Aside0.mk (HMO.out Br P (fun k => P k ∨ k = Bd ∨ k = Be ∨ k = Br ∨ k = Bs ∨ k = Bc) st w (fun k hk => hk.imp id (fun e => by have := HN.out; omega)) (HI.out Br HBr.out))
  have HP6 := Aside0.mk (show ∀ k, (P k ∨ k = Bd ∨ k = Be ∨ k = Br ∨ k = Bs ∨ k = Bc) → k < w5.heap.size from fun k hk => by
    rcases hk with h | h
    · have := HP.out k h; have := HN.out; omega
    · have := HN.out; omega)
  have HSZ := Aside0.mk (show ∀ v, (w5.setCell ⟨Bc, 0, none⟩ v).heap.size = w5.heap.size from fun v => by simp [World.setCell])
  clear hcs6 hce6
  go_region_held3 (fun w' => w'.cell? ⟨Bc, 0, none⟩ = some (.func (.func 46) #[] #[.pointer (some ⟨Bd, 0, none⟩), .pointer (some ⟨Be, 0, none⟩), .pointer (some ⟨Bs, 0, none⟩), .pointer (some ⟨Bc, 0, none⟩)]) ∧ w'.cell? ⟨Bd, 0, none⟩ = some (.string ds))
    (first | exact ⟨hcc6, hcd6⟩ | exact hS7 | exact hS8)
    (first | (go_at_call 49; refine (impl_begin.calls _ _ _ _ _ rfl).mono ?_; rintro e w7 ⟨rfl, hb7⟩; have hb7' : Below (w5.setCell ⟨Bc, 0, none⟩ (.func (.func 46) #[] #[.pointer (some ⟨Bd, 0, none⟩), .pointer (some ⟨Be, 0, none⟩), .pointer (some ⟨Bs, 0, none⟩), .pointer (some ⟨Bc, 0, none⟩)])).heap.size (w5.setCell ⟨Bc, 0, none⟩ (.func (.func 46) #[] #[.pointer (some ⟨Bd, 0, none⟩), .pointer (some ⟨Be, 0, none⟩), .pointer (some ⟨Bs, 0, none⟩), .pointer (some ⟨Bc, 0, none⟩)])) w7 := ⟨hb7.os, hb7.tape, hb7.output, hb7.size, hb7.block⟩; clear hb7; have hS7 := And.intro (below_cell_ hb7' hcc6) (below_cell_ hb7' hcd6); have HB7 := Aside0.mk hb7'; clear hb7') | (go_at_call 46; refine (choose_calls3 ds HDS.out Bd Be Br Bs Bc m g caps (I Br) f G HM.out (by have := HN.out; omega) eg (HGO.out Br HBr.out) (HMO.out Br) (HST.out Br) m 0 1 (fun k => P k ∨ k = Bd ∨ k = Be ∨ k = Br ∨ k = Bs ∨ k = Bc) w7 (List.replicate m 0) [] _ _ _ st (by have := HM.out; omega) rfl rfl rfl (fun k hk => Nat.lt_of_lt_of_le (HP6.out k hk) (by have := HB7.out.size; rw [HSZ.out] at this; exact this)) ⟨.inr (.inl rfl), .inr (.inr (.inl rfl)), .inr (.inr (.inr (.inl rfl))), .inr (.inr (.inr (.inr (.inl rfl)))), .inr (.inr (.inr (.inr (.inr rfl))))⟩ (HE6.out.keepP (belowP_of (P := fun k => k < w5.heap.size) HB7.out (fun k hk => by rw [HSZ.out]; exact hk)) (HP6.out _ (.inr (.inl rfl))) (HP6.out _ (.inr (.inr (.inl rfl)))) (HP6.out _ (.inr (.inr (.inr (.inr (.inl rfl)))))) (HP6.out _ (.inr (.inr (.inr (.inr (.inr rfl))))))) (rowB_below HR6.out HB7.out) (HST.out Br _ st w w7 HI6.out (fun k hk _ => (below_then HBW.out HBW.out.size HB7.out).block k hk) (below_then HBW.out HBW.out.size HB7.out).size) HGG.out).mono ?_; rintro e w8 ⟨rfl, hi8, hb8, row8, hr8, ht8⟩; have hS8 := And.intro (belowP_cell_ hb8 ⟨.inr (.inr (.inr (.inr (.inr rfl)))), by have := HN.out; show Bc ≠ Br; omega⟩ hS7.1) (belowP_cell_ hb8 ⟨.inr (.inl rfl), by have := HN.out; show Bd ≠ Br; omega⟩ hS7.2); have HI8 := Aside0.mk hi8; have HB8 := Aside0.mk hb8; clear hi8 hb8 hr8 ht8))
  go_wp2
  go_ret
  exact ⟨rfl, ⟨Br, HBr.out, HMO.out Br _ P _ w8 (fun k hk => .inl (.inl hk)) HI8.out⟩, (belowP_of (below_then HBW.out HBW.out.size HB7.out) HP.out).trans (HB8.out.mono (fun k hk => ⟨.inl hk, by have := HP.out k hk; have := HBr.out; show k ≠ Br; omega⟩))⟩

-- included rowC
theorem wrapid_ {x : Int} (h0 : -9223372036854775808 ≤ x) (h1 : x < 9223372036854775808) : wrap64 x = x := by
  unfold wrap64
  omega
theorem rowB_C {w : World} {B n : Nat} {xs : List Int} (h : RowB w B n xs) (hn : n ≤ 1000) : Kd.C (Kd.int .u8) w (some ⟨B, 0, none⟩) n xs :=
  Kd.C_of_reads (d := (0 : Int)) ⟨h.2.1, by omega, fun _ => ⟨_, rfl, fun j hj => by rw [Addr.add_lit, Nat.zero_add]; exact h.2.2.1 j hj⟩⟩

-- included plainT
def noMul (sg : List Int) : Bool := sg.all fun s => !(s == 42)
theorem idx_l0_ (sg : List Int) (h7 : sg.length ≤ 1000) : ∀ (d j k : Nat), j + d = sg.length → d < k → ∃ v, slices_Index_byte_byte.l0 k sg 42 (sg.length : Int) j = some v ∧ (!decide (v ≥ 0)) = (sg.drop j).all fun s => !(s == 42)
  | 0, j, k, e, hk => by
    obtain ⟨k, rfl⟩ : ∃ m, k = m + 1 := ⟨k - 1, by omega⟩
    rw [slices_Index_byte_byte.l0, if_neg (show ¬ (j : Int) < (sg.length : Int) by omega), List.drop_of_length_le (by omega)]
    exact ⟨-1, rfl, rfl⟩
  | d + 1, j, k, e, hk => by
    obtain ⟨k, rfl⟩ : ∃ m, k = m + 1 := ⟨k - 1, by omega⟩
    have hj : j < sg.length := by omega
    have w1 : wrap64 ((j : Int) + 1) = ((j + 1 : Nat) : Int) := by rw [wrapid_ (by omega) (by omega)]; omega
    have hr : rd sg (j : Int) = sg[j] := by simp [rd, hj]
    have p1 : (j : Int) < (sg.length : Int) := by omega
    rw [slices_Index_byte_byte.l0, if_pos p1, if_pos (show (0 : Int) ≤ (j : Int) by omega), if_pos p1, hr, w1, List.drop_eq_getElem_cons hj]
    by_cases c : (42 : Int) = sg[j]
    · rw [if_pos c]
      have hz : decide ((j : Int) ≥ 0) = true := decide_eq_true (by omega)
      refine ⟨_, rfl, ?_⟩
      rw [hz, List.all_cons, ← c]
      rfl
    · rw [if_neg c]
      obtain ⟨v, h1, h2⟩ := idx_l0_ sg h7 d (j + 1) k (by omega) (by omega)
      refine ⟨v, h1, ?_⟩
      have hb : (sg[j] == (42 : Int)) = false := beq_eq_false_iff_ne.2 fun q => c q.symm
      rw [h2, List.all_cons, hb]
      rfl
theorem isPlain_some_ (sg : List Int) (h7 : sg.length ≤ 1000) : impl_isPlain.f (sg.length + 1) sg = some (noMul sg) := by
  unfold impl_isPlain.f slices_Contains_byte_byte.f slices_Index_byte_byte.f
  obtain ⟨v, h1, h2⟩ := idx_l0_ sg h7 sg.length 0 (sg.length + 1) (by omega) (by omega)
  rw [show ((0 : Nat) : Int) = 0 from rfl] at h1
  rw [h1, Option.bind_some, Option.bind_some, h2]
  rfl

-- included sizeT
theorem areDigits_size_ (s : ByteArray) (a b : Int) : ∀ (k : Nat) (n i : Int), impl_areDigits.l0 k s a b n i = some true → impl_within.f (s.size : Int) a b = some true
  | 0, _, _, h => by simp [impl_areDigits.l0] at h
  | k + 1, n, i, h => by
    simp only [impl_areDigits.l0] at h
    split at h
    · split at h
      · split at h
        · split at h
          · cases h
          · split at h
            · cases h
            · exact areDigits_size_ s a b k n _ h
        · cases h
      · cases h
    · obtain ⟨t, h1, h2⟩ := Option.bind_eq_some_iff.mp h
      cases h2
      exact h1
theorem some_size_ {k : Nat} {s : ByteArray} (h1 : impl_areSome.f k s = some true) : 1 ≤ s.size ∧ s.size ≤ 7 := by
  unfold impl_areSome.f at h1
  obtain ⟨u, h3, h4⟩ := Option.bind_eq_some_iff.mp h1
  cases h4
  have := areDigits_size_ s 1 7 k _ _ h3
  unfold impl_within.f at this
  split at this
  · have h5 := of_decide_eq_true (Option.some.inj this)
    omega
  · cases this

-- included numbers
def cntD (D : DataW Unit) (v : Int) : Int := match D.atKey (.int .i64 v) (.lit (.int .i64 0)) with
  | .lit (.int _ c) => c
  | _ => 0
theorem cntD_of {D : DataW Unit} {v c : Int} (h : D.atKey (.int .i64 v) (.lit (.int .i64 0)) = .lit (.int .i64 c)) : cntD D v = c := by
  unfold cntD
  rw [h]
def putD (D : DataW Unit) (v : Int) : DataW Unit := D.put (.int .i64 v) (.lit (.int .i64 (wrap64 (cntD D v + 1))))
def mapOf (st : List Int) : DataW Unit := st.foldl putD (.map [])
theorem mapOf_snoc (st : List Int) (v : Int) : mapOf (st ++ [v]) = putD (mapOf st) v := by
  unfold mapOf
  rw [List.foldl_append]
  rfl
def NumG : List Int → Int → Prop := fun st v => st.length < 5000 ∧ (Lit.int .i64 v).wf = true
def numF (plain : Bool) : List Int → List Int → Int → List Int × Bool := fun st sg v => (if (!plain || noMul sg) = true then st ++ [v] else st, true)
structure NumI (Bb Bo Bm : Nat) (plain : Bool) (Br : Nat) (P : Nat → Prop) (st : List Int) (w : World) : Prop where
  o : Bo ≠ Br ∧ Bo < w.heap.size ∧ w.heap[Bo]? = some (.cells #[.map (some Bm)] 36 (0, 0))
  b : Bb ≠ Br ∧ Bb < w.heap.size ∧ w.heap[Bb]? = some (.cells #[.bool plain] 4 (0, 0))
  m : Bm ≠ Br ∧ Bm < w.heap.size ∧ ¬ P Bm ∧ Bm ≠ Bo ∧ Bm ≠ Bb
  v : w.ownsMap Try.prog 3 (plainElem (H := Unit) Try.prog 3) Bm st.length (mapOf st)
theorem owns_move_ {w w' : World} {P : Program} {k : TypeId} {R : Value → Option (DataW Unit × List MemPlace)} {b n : Nat} {D : DataW Unit} (h : w.ownsMap P k R b n D) (hb : w'.heap[b]? = w.heap[b]?) : w'.ownsMap P k R b n D := by
  obtain ⟨es, clock, h1, h2, h3, h4⟩ := h
  exact ⟨es, clock, hb.trans h1, h2, h3, h4⟩
theorem numI_mono {Bb Bo Bm : Nat} {plain : Bool} : ∀ Br (P Q : Nat → Prop) (st : List Int) (w : World), (∀ k, Q k → P k ∨ w.heap.size ≤ k) → NumI Bb Bo Bm plain Br P st w → NumI Bb Bo Bm plain Br Q st w :=
  fun _ _ _ _ _ hq h => ⟨h.o, h.b, ⟨h.m.1, h.m.2.1, fun hk => (hq _ hk).elim h.m.2.2.1 (fun hle => absurd h.m.2.1 (Nat.not_lt.mpr hle)), h.m.2.2.2⟩, h.v⟩
theorem numI_stab {Bb Bo Bm : Nat} {plain : Bool} : ∀ Br (P : Nat → Prop) (st : List Int) (w w' : World), NumI Bb Bo Bm plain Br P st w → (∀ k, k < w.heap.size → k ≠ Br → w'.heap[k]? = w.heap[k]?) → w.heap.size ≤ w'.heap.size → NumI Bb Bo Bm plain Br P st w' :=
  fun _ _ _ _ _ h hk hs => ⟨⟨h.o.1, Nat.lt_of_lt_of_le h.o.2.1 hs, (hk Bo h.o.2.1 h.o.1).trans h.o.2.2⟩, ⟨h.b.1, Nat.lt_of_lt_of_le h.b.2.1 hs, (hk Bb h.b.2.1 h.b.1).trans h.b.2.2⟩, ⟨h.m.1, Nat.lt_of_lt_of_le h.m.2.1 hs, h.m.2.2⟩, owns_move_ h.v (hk Bm h.m.2.1 h.m.1)⟩
theorem lawK : Go.Maps.Keyed Try.prog 3 := Go.Maps.int_keyed Try.underlying3
theorem zeroK (w : World) : (zeroValue 3).run Try.prog w = .ok (.int .i64 0) w := by kernel_rfl
theorem num_skip_ {Bb Bo Bm Br : Nat} {plain : Bool} {P : Nat → Prop} {st : List Int} {sg : List Int} {v : Int} {w w' : World} (h : NumI Bb Bo Bm plain Br P st w) (hb : Below w.heap.size w w') (hc : (!plain || noMul sg) = false) : NumI Bb Bo Bm plain Br P (numF plain st sg v).1 w' := by
  have e : (numF plain st sg v).1 = st := if_neg (fun q => by rw [hc] at q; cases q)
  rw [e]
  exact numI_stab Br P st w w' h (fun k hk _ => hb.block k hk) hb.size
theorem num_put_ {Bb Bo Bm Br : Nat} {plain : Bool} {P : Nat → Prop} {st : List Int} {sg : List Int} {v c : Int} {w w' w1 : World} (h : NumI Bb Bo Bm plain Br P st w) (hb : Below w.heap.size w w') (hc : (!plain || noMul sg) = true) (hP : ∀ k, P k → k < w.heap.size)
    (hat : (mapOf st).atKey (.int .i64 v) (.lit (.int .i64 0)) = .lit (.int .i64 c)) (hown : w1.ownsMap Try.prog 3 (plainElem (H := Unit) Try.prog 3) Bm (st.length + 1) ((mapOf st).put (.int .i64 v) (.lit (.int .i64 (wrap64 (c + 1)))))) (hg : w'.grownBy w1 (some Bm)) : NumI Bb Bo Bm plain Br P (numF plain st sg v).1 w1 ∧ BelowP P w w1 := by
  have e : (numF plain st sg v).1 = st ++ [v] := if_pos hc
  have e2 : mapOf (st ++ [v]) = (mapOf st).put (.int .i64 v) (.lit (.int .i64 (wrap64 (c + 1)))) := by
    rw [mapOf_snoc, putD, cntD_of hat]
  have hk : ∀ k, k < w.heap.size → k ≠ Bm → w1.heap[k]? = w.heap[k]? := fun k hk hne => (hg.block k (Nat.lt_of_lt_of_le hk hb.size) (fun q => hne (Option.some.inj q))).trans (hb.block k hk)
  have hs : w.heap.size ≤ w1.heap.size := Nat.le_trans hb.size hg.size
  refine ⟨?_, ⟨hg.os.trans hb.os, hg.tape.trans hb.tape, hg.output.trans hb.output, hs, fun k hp => hk k (hP k hp) (fun q => h.m.2.2.1 (q ▸ hp))⟩⟩
  rw [e]
  refine ⟨⟨h.o.1, Nat.lt_of_lt_of_le h.o.2.1 hs, (hk Bo h.o.2.1 (fun q => h.m.2.2.2.1 q.symm)).trans h.o.2.2⟩, ⟨h.b.1, Nat.lt_of_lt_of_le h.b.2.1 hs, (hk Bb h.b.2.1 (fun q => h.m.2.2.2.2 q.symm)).trans h.b.2.2⟩, ⟨h.m.1, Nat.lt_of_lt_of_le h.m.2.1 hs, h.m.2.2⟩, ?_⟩
  rw [e2, List.length_append]
  exact hown
set_option maxHeartbeats 8000000 in
set_option maxRecDepth 100000 in
theorem numbers1_calls (n : Nat) (h7 : n ≤ 1000) (Bb Bo Bm : Nat) (plain : Bool) (Br : Nat) (P : Nat → Prop) (w : World) (sg : List Int) (st : List Int) (v : Int) (hP : ∀ k, P k → k < w.heap.size) (hR : RowB w Br n sg) (hI : NumI Bb Bo Bm plain Br P st w) (hG : NumG st v) :
    Calls Try.prog 39 (#[.slice (some ⟨Br, 0, none⟩) n n, .int .i64 v] ++ #[.pointer (some ⟨Bb, 0, none⟩), .pointer (some ⟨Bo, 0, none⟩)]) w fun e w' => e = .returned (.bool (numF plain st sg v).2) ∧ NumI Bb Bo Bm plain Br P (numF plain st sg v).1 w' ∧ BelowP P w w' := by
  have hlen := hR.2.1
  subst hlen
  have c1 : w.cell? ⟨Bo, 0, none⟩ = some (.map (some Bm)) := (blk_cell hI.o.2.2 0).trans rfl
  have c2 : w.cell? ⟨Bb, 0, none⟩ = some (.bool plain) := (blk_cell hI.b.2.2 0).trans rfl
  have HI := Aside0.mk hI
  have HP := Aside0.mk hP
  have HRC := Aside0.mk (rowB_C hR h7)
  have HS := Aside0.mk (isPlain_some_ sg h7)
  have HG := Aside0.mk hG
  have HV := Aside0.mk hI.v
  clear hI hP hR hG
  cases plain with
  | false =>
    go_enter Try.func39, Try.ntmps39
    go_wp2_with (first | (at_lookup; refine wpList_lookup_own_int _ rfl _ _ 36 rfl 3 3 .i64 lawK Try.underlying36 Try.underlying3 (zeroK _) Bm st.length _ rfl HV.out _ _ rfl (Go.Maps.keyOf_int_mk Try.underlying3 HG.out.2) ?_; intro c hat hwc; have HAT := Aside0.mk hat; clear hat hwc) | (at_mapUpdate; refine wpList_mapUpdate_own _ rfl _ _ _ 36 rfl 3 3 lawK Try.underlying36 _ Bm st.length _ rfl HV.out (by have := HG.out.1; unfold maxLen; omega) _ _ _ rfl rfl (Go.Maps.keyOf_int_mk Try.underlying3 HG.out.2) _ [] (plainElem_int Try.underlying3 (wrap64_wf _)) ?_; intro w1 hown1 hgrow1; have HO1 := Aside0.mk hown1; have HG1 := Aside0.mk hgrow1; clear hown1 hgrow1))
    go_ret
    have h := num_put_ (sg := sg) HI.out (Below.refl _ _) rfl HP.out HAT.out HO1.out HG1.out
    exact ⟨rfl, h.1, h.2⟩
  | true =>
    cases hm : noMul sg with
    | true =>
      rw [hm] at HS
      have HM := Aside0.mk hm
      clear hm
      go_enter Try.func39, Try.ntmps39
      go_wp2_with (first | (go_at_call 40; refine (impl_isPlain.calls (sg.length + 1) (some ⟨Br, 0, none⟩) sg.length sg true _ HRC.out (Nat.le_refl _) HS.out).mono ?_; rintro e w2 ⟨rfl, hd⟩; have HB2 := Aside0.mk (show Below w.heap.size w w2 from hd.below.mono (Nat.le_refl _)); clear hd; have c3 : w2.cell? ⟨Bo, 0, none⟩ = some (.map (some Bm)) := (blk_cell (blk_below HI.out.o.2.2 HB2.out) 0).trans rfl; have HV2 := Aside0.mk (owns_move_ HV.out (HB2.out.block Bm HI.out.m.2.1))) | (at_lookup; refine wpList_lookup_own_int _ rfl _ _ 36 rfl 3 3 .i64 lawK Try.underlying36 Try.underlying3 (zeroK _) Bm st.length _ rfl HV2.out _ _ rfl (Go.Maps.keyOf_int_mk Try.underlying3 HG.out.2) ?_; intro c hat hwc; have HAT := Aside0.mk hat; clear hat hwc) | (at_mapUpdate; refine wpList_mapUpdate_own _ rfl _ _ _ 36 rfl 3 3 lawK Try.underlying36 _ Bm st.length _ rfl HV2.out (by have := HG.out.1; unfold maxLen; omega) _ _ _ rfl rfl (Go.Maps.keyOf_int_mk Try.underlying3 HG.out.2) _ [] (plainElem_int Try.underlying3 (wrap64_wf _)) ?_; intro w1 hown1 hgrow1; have HO1 := Aside0.mk hown1; have HG1 := Aside0.mk hgrow1; clear hown1 hgrow1))
      go_ret
      have h := num_put_ (sg := sg) HI.out HB2.out (by rw [HM.out]; rfl) HP.out HAT.out HO1.out HG1.out
      exact ⟨rfl, h.1, h.2⟩
    | false =>
      rw [hm] at HS
      have HM := Aside0.mk hm
      clear hm
      go_enter Try.func39, Try.ntmps39
      go_wp2_with (go_at_call 40; refine (impl_isPlain.calls (sg.length + 1) (some ⟨Br, 0, none⟩) sg.length sg false _ HRC.out (Nat.le_refl _) HS.out).mono ?_; rintro e w2 ⟨rfl, hd⟩; have HB2 := Aside0.mk (show Below w.heap.size w w2 from hd.below.mono (Nat.le_refl _)); clear hd)
      go_ret
      exact ⟨rfl, num_skip_ HI.out HB2.out (by rw [HM.out]; rfl), belowP_of HB2.out HP.out⟩

-- included numbers2
theorem num_rounds_ (g : Int → List Int → List Int × Bool) (c : Nat) (h : ∀ s st, (g s st).2 = true ∧ (g s st).1.length ≤ st.length + c) : ∀ (L : List Int) (st : List Int), (roundsT g L st).2 = true ∧ (roundsT g L st).1.length ≤ st.length + L.length * c
  | [], st => by simp [roundsT]
  | s :: L, st => by
    have h1 := h s st
    have h2 := num_rounds_ g c h L (g s st).1
    rw [roundsT, if_pos h1.1]
    refine ⟨h2.1, ?_⟩
    rw [List.length_cons, Nat.succ_mul]
    omega
theorem num_len_ (plain : Bool) (ds : ByteArray) : ∀ (d i : Nat) (pre : List Int) (r : Int × Int × Int) (st : List Int), (dfsT (numF plain) ds d i pre r st).2 = true ∧ (dfsT (numF plain) ds d i pre r st).1.length ≤ st.length + 4 ^ d
  | 0, i, pre, r, st => by
    unfold dfsT numF
    refine ⟨rfl, ?_⟩
    split <;> simp
  | d + 1, i, pre, r, st => by
    have h := num_rounds_ (fun s st => dfsT (numF plain) ds d (i + 1) (pre ++ [s]) (onT r s (bt ds (i : Int))) st) (4 ^ d) (fun s st => num_len_ plain ds d (i + 1) _ _ st) [42, 43, 45, 0] st
    rw [dfsT]
    refine ⟨h.1, Nat.le_trans h.2 ?_⟩
    rw [Nat.pow_succ]
    simp only [List.length_cons, List.length_nil]
    omega
theorem num_roundsG_ (g : Int → List Int → Prop) (h : Int → List Int → List Int × Bool) (c : Nat) (hg : ∀ s st, st.length + c ≤ 5000 → g s st) (hh : ∀ s st, (h s st).1.length ≤ st.length + c) : ∀ (L : List Int) (st : List Int), st.length + L.length * c ≤ 5000 → roundsG g h L st
  | [], _, _ => trivial
  | s :: L, st, hl => by
    rw [List.length_cons, Nat.succ_mul] at hl
    have := hh s st
    exact ⟨hg s st (by omega), fun _ => num_roundsG_ g h c hg hh L _ (by omega)⟩
theorem num_good_ (plain : Bool) (ds : ByteArray) : ∀ (d i : Nat) (pre : List Int) (r : Int × Int × Int) (st : List Int), st.length + 4 ^ d ≤ 5000 → dfsG NumG (numF plain) ds d i pre r st
  | 0, i, pre, r, st, h => by
    simp at h
    exact ⟨by omega, wrap64_wf _⟩
  | d + 1, i, pre, r, st, h => by
    rw [Nat.pow_succ] at h
    exact num_roundsG_ _ _ (4 ^ d) (fun s st hs => num_good_ plain ds d (i + 1) _ _ st hs) (fun s st => (num_len_ plain ds d (i + 1) _ _ st).2) [42, 43, 45, 0] st (by simp only [List.length_cons, List.length_nil]; omega)
theorem num_small_ {n : Nat} (h : n ≤ 7) : ([] : List Int).length + 4 ^ (n - 1) ≤ 5000 := by
  have : 4 ^ (n - 1) ≤ 4 ^ 6 := Nat.pow_le_pow_right (by decide) (by omega)
  simp only [List.length_nil, Nat.zero_add]
  exact Nat.le_trans this (by decide)
def startT (ds : ByteArray) : Int × Int × Int := (0, 1, (bt ds 0 - 48) % 256)
def numT (ds : ByteArray) (plain : Bool) : List Int := (dfsT (numF plain) ds (ds.size - 1) 1 [] (startT ds) ([] : List Int)).1
theorem num_start_ {Bb Bo : Nat} {plain : Bool} {w w1 w3 : World} (hb1 : Below w.heap.size w w1) (hgb : Bb = w.heap.size) (xb : w1.heap[Bb]? = some (.cells #[.bool plain] 4 (0, 0))) (hgo : Bo = (w1.alloc (.map #[] 0)).heap.size) (hb3 : Below (w1.alloc (.map #[] 0)).heap.size (w1.alloc (.map #[] 0)) w3) (xo : w3.heap[Bo]? = some (.cells #[.map none] 36 (0, 0))) :
    BelowP (fun k => k < w.heap.size) w (w3.setCell ⟨Bo, 0, none⟩ (.map (some w1.heap.size))) ∧ ∀ Br, (w3.setCell ⟨Bo, 0, none⟩ (.map (some w1.heap.size))).heap.size ≤ Br → NumI Bb Bo w1.heap.size plain Br (fun k => k < w.heap.size) [] (w3.setCell ⟨Bo, 0, none⟩ (.map (some w1.heap.size))) := by
  have hs : (w1.alloc (.map #[] 0)).heap.size = w1.heap.size + 1 := by simp
  have hba : Below w1.heap.size w1 (w1.alloc (.map #[] 0)) := below_alloc (Below.refl _ _) _
  have hown : (w1.alloc (.map #[] 0)).ownsMap Try.prog 3 (plainElem (H := Unit) Try.prog 3) w1.heap.size 0 (.map []) := World.ownsMap_made _ _ _ _
  have hown3 := owns_move_ hown (hb3.block _ (by omega))
  have xb3 := blk_below (blk_below xb hba) hb3
  have hlt := blk_lt xo
  have hltb := blk_lt xb
  have hb := below_then (below_then hb1 hb1.size hba) (Nat.le_trans hb1.size hba.size) hb3
  have hsz := setCell_size_ w3 ⟨Bo, 0, none⟩ (.map (some w1.heap.size))
  have hne : ∀ k, k ≠ Bo → (w3.setCell ⟨Bo, 0, none⟩ (.map (some w1.heap.size))).heap[k]? = w3.heap[k]? := fun k hk => Below.heap_setCell w3 ⟨Bo, 0, none⟩ _ k hk
  have hput := blk_put (cs' := #[.map (some w1.heap.size)]) xo 0 (.map (some w1.heap.size)) rfl
  have hP := belowP_set (P := fun k => k < w.heap.size) (belowP_of hb (fun k hk => hk)) (b := Bo) (show ¬ Bo < w.heap.size by have := hb1.size; omega) 0 (.map (some w1.heap.size))
  have h3 := hb3.size
  generalize w3.setCell ⟨Bo, 0, none⟩ (.map (some w1.heap.size)) = W at hsz hne hput hP ⊢
  exact ⟨hP, fun Br hBr => ⟨⟨by omega, by omega, hput⟩, ⟨by omega, by omega, (hne _ (by omega)).trans xb3⟩, ⟨by omega, by omega, show ¬ w1.heap.size < w.heap.size by have := hb1.size; omega, by omega, by omega⟩, owns_move_ hown3 (hne _ (by omega))⟩⟩
theorem num_read_ {Bb Bo Bm Br : Nat} {plain : Bool} {P : Nat → Prop} {ds : ByteArray} {w : World} (h : NumI Bb Bo Bm plain Br P (dfsT (numF plain) ds (ds.size - 1) 1 [] (0, 1, (bt ds 0 - 48) % 256) ([] : List Int)).1 w) : w.cell? ⟨Bo, 0, none⟩ = some (.map (some Bm)) ∧ Bm < w.heap.size ∧ w.ownsMap Try.prog 3 (plainElem (H := Unit) Try.prog 3) Bm (numT ds plain).length (mapOf (numT ds plain)) := by
  have e : (dfsT (numF plain) ds (ds.size - 1) 1 [] (0, 1, (bt ds 0 - 48) % 256) ([] : List Int)).1 = numT ds plain := by unfold numT startT; rfl
  rw [e] at h
  exact ⟨(blk_cell h.o.2.2 0).trans rfl, h.m.2.1, h.v⟩
set_option maxHeartbeats 8000000 in
set_option maxRecDepth 100000 in
theorem numbers_calls (ds : ByteArray) (h1 : 1 ≤ ds.size) (h7 : ds.size ≤ 7) (plain : Bool) (w : World) :
    Calls Try.prog 27 #[.string ds, .bool plain] w fun e w' => ∃ Bm, e = .returned (.map (some Bm)) ∧ w.heap.size ≤ Bm ∧ w'.ownsMap Try.prog 3 (plainElem (H := Unit) Try.prog 3) Bm (numT ds plain).length (mapOf (numT ds plain)) ∧ Below w.heap.size w w' := by
  have hmm := @run_makeMap Try.prog
  have hmf : ∀ (fn : Fn) (first cap : Array Value) (w : World), (Instr.makeFunc fn first cap).run Try.prog w = .ok (.func fn first cap) w := fun _ _ _ _ => rfl
  have HEG := Aside0.mk (show ∀ args w, (callFunc 39 args).run Try.prog w = .ok (.enter 39 args) w from enters_of Try.func39 (by kernel_rfl) rfl)
  have HSZ := Aside0.mk (And.intro h1 h7)
  clear h1 h7
  go_enter Try.func27, Try.ntmps27
  go_wp2_with (first | ((with_reducible refine gate_dst (N := 3) rfl ?_); refine box_event ?hg (N := 3) ?hd (cs := #[.bool plain]) (t := 4) ?hr ?_; (case hd => rfl); (case hg => rfl); (case hr => first | (go_simp; done) | (go_simp; rfl)); intro Bb hg1 w1 hx1 hb1; have HG1 := Aside0.mk hg1; have HX1 := Aside0.mk hx1; have HB1 := Aside0.mk hb1; clear hg1 hx1 hb1) | ((with_reducible refine gate_dst (N := 5) rfl ?_); refine box_event ?hg (N := 5) ?hd (cs := #[.map none]) (t := 36) ?hr ?_; (case hd => rfl); (case hg => rfl); (case hr => first | (go_simp; done) | (go_simp; rfl)); intro Bo hg3 w3 hx3 hb3; have hc3 : w3.cell? ⟨Bo, 0, none⟩ = some (.map none) := (blk_cell hx3 0).trans rfl; have hf3 := blk_frozen hx3 0; have HST := Aside0.mk (num_start_ HB1.out HG1.out HX1.out hg3 hb3 hx3); clear hg3 hx3 hb3) | (go_at_call 38; refine (signings_calls3 ds HSZ.out.1 (Nat.le_trans HSZ.out.2 (by decide)) 39 #[.pointer (some ⟨Bb, 0, none⟩), .pointer (some ⟨Bo, 0, none⟩)] (NumI Bb Bo w1.heap.size plain) (numF plain) NumG HEG.out _ (fun k => k < w.heap.size) [] (fun Br _ P w sg st v hP _ hR hI hG => numbers1_calls (ds.size - 1) (Nat.le_trans (Nat.sub_le _ _) (Nat.le_trans HSZ.out.2 (by decide))) Bb Bo w1.heap.size plain Br P w sg st v hP hR hI hG) numI_mono numI_stab (fun k hk => Nat.lt_of_lt_of_le hk HST.out.1.size) HST.out.2 (num_good_ plain ds _ _ _ _ _ (num_small_ HSZ.out.2))).mono ?_; rintro e w4 ⟨rfl, ⟨Br, _, hi⟩, hb4⟩; have hc4 := (num_read_ hi).1; have HR4 := Aside0.mk (num_read_ hi).2; have HB4 := Aside0.mk hb4; clear hi hb4))
  go_ret
  have hb := HST.out.1.trans HB4.out
  exact ⟨w1.heap.size, rfl, HB1.out.size, HR4.out.2, ⟨hb.os, hb.tape, hb.output, hb.size, fun k hk => hb.block k hk⟩⟩

-- included range
theorem isKey_int_ (v : Int) : WideAt.IsKeyLit (.int .i64 v) := by trivial
theorem key_ne_ {v y : Int} (h : y ≠ v) : (Lit.int .i64 y) ≠ (Lit.int .i64 v) := fun q => h (by injection q)
theorem has_foldl_ : ∀ (L : List Int) (D : DataW Unit), Maps.IsMap D → ∀ y, Maps.has (L.foldl putD D) (.int .i64 y) = (Maps.has D (.int .i64 y) || decide (y ∈ L))
  | [], D, _, y => by simp
  | v :: L, D, hD, y => by
    rw [List.foldl_cons, has_foldl_ L (putD D v) (Maps.IsMap.put hD _ _) y]
    by_cases c : y = v
    · subst c
      have h1 : Maps.has (putD D y) (.int .i64 y) = true := Maps.has_put_same hD (isKey_int_ y) _
      rw [h1]
      simp
    · have h1 : Maps.has (putD D v) (.int .i64 y) = Maps.has D (.int .i64 y) := Maps.has_put_other (key_ne_ c) _
      rw [h1]
      simp [c]
theorem has_mapOf_ (L : List Int) (y : Int) : Maps.has (mapOf L) (.int .i64 y) = decide (y ∈ L) := by
  unfold mapOf
  rw [has_foldl_ L _ Maps.isMap_empty y]
  rfl
theorem sameKey_int_ {x z : Int} (h : (Lit.int .i64 z).sameKey (.int .i64 x) = true) : z = x := by
  have := WideAt.sameKey_eq h
  injection this
theorem sameKey_self_ (x : Int) : (Lit.int .i64 x).sameKey (.int .i64 x) = true := WideAt.sameKey_self (isKey_int_ x)

-- included keys
/-- What has been collected: the keys met so far, each once. -/
def KeyR (L : List Int) (left : Lit → Bool) (xs : List Int) : Prop :=
  xs.Nodup ∧ (∀ n, n ∈ xs → n ∈ L ∧ left (.int .i64 n) = false) ∧ ∀ n, n ∈ L → left (.int .i64 n) = false → n ∈ xs
theorem keyR_start (L : List Int) (left : Lit → Bool) (h : ∀ n, n ∈ L → left (.int .i64 n) = true) : KeyR L left [] := ⟨List.nodup_nil, fun n hn => (by cases hn), fun n hn hl => by rw [h n hn] at hl; cases hl⟩
theorem keyR_step {L : List Int} {n : Int} {left : Lit → Bool} {xs : List Int} (h : KeyR L left xs) (hn : n ∈ L) (hl : left (.int .i64 n) = true) : KeyR L (fun z => left z && !z.sameKey (.int .i64 n)) (xs ++ [n]) := by
  have hx : n ∉ xs := fun q => by have := (h.2.1 n q).2; rw [hl] at this; cases this
  refine ⟨List.nodup_append.mpr ⟨h.1, by simp, fun a ha b hb => by simp at hb; subst hb; exact fun q => hx (q ▸ ha)⟩, fun m hm => ?_, fun m hm hml => ?_⟩
  · rcases List.mem_append.mp hm with q | q
    · have := h.2.1 m q
      exact ⟨this.1, by show (left (.int .i64 m) && _) = false; rw [this.2]; rfl⟩
    · simp at q
      subst q
      exact ⟨hn, by show (left (.int .i64 m) && !(Lit.int .i64 m).sameKey (.int .i64 m)) = false; rw [sameKey_self_]; simp⟩
  · cases hs : (Lit.int .i64 m).sameKey (.int .i64 n) with
    | true => rw [sameKey_int_ hs]; simp
    | false =>
      have h2 : (left (.int .i64 m) && !(Lit.int .i64 m).sameKey (.int .i64 n)) = false := hml
      rw [hs] at h2
      exact List.mem_append_left _ (h.2.2 m hm (by simpa using h2))
theorem keyR_end {L : List Int} {left : Lit → Bool} {xs : List Int} (h : KeyR L left xs) (hl : ∀ kl, left kl = false) : xs.Nodup ∧ ∀ n, n ∈ xs ↔ n ∈ L := ⟨h.1, fun n => ⟨fun q => (h.2.1 n q).1, fun q => h.2.2 n q (hl _)⟩⟩
def srtI (xs : List Int) : List Int := xs.mergeSort fun x y => decide (x ≤ y)
theorem srtI_ok (xs : List Int) (h : xs.Nodup) : (srtI xs).Pairwise (fun a b => a < b) ∧ ∀ n, n ∈ srtI xs ↔ n ∈ xs := by
  have hp : (srtI xs).Perm xs := List.mergeSort_perm xs _
  have hs : (srtI xs).Pairwise (fun a b => decide (a ≤ b) = true) := List.pairwise_mergeSort (le := fun x y : Int => decide (x ≤ y)) (fun a b c h1 h2 => decide_eq_true (Int.le_trans (of_decide_eq_true h1) (of_decide_eq_true h2))) (fun a b => by
    rcases Int.le_total a b with h | h
    · simp [h]
    · simp [h]) xs
  have hn : (srtI xs).Nodup := hp.nodup_iff.mpr h
  refine ⟨?_, fun n => hp.mem_iff⟩
  exact (hs.and hn).imp (fun h => by have h1 := of_decide_eq_true h.1; have h2 := h.2; omega)
theorem strict_ext : ∀ (A B : List Int), A.Pairwise (fun a b => a < b) → B.Pairwise (fun a b => a < b) → (∀ n, n ∈ A ↔ n ∈ B) → A = B
  | [], [], _, _, _ => rfl
  | [], b :: B, _, _, h => by have := (h b).mpr (List.mem_cons_self ..); cases this
  | a :: A, [], _, _, h => by have := (h a).mp (List.mem_cons_self ..); cases this
  | a :: A, b :: B, ha, hb, h => by
    have h1 := List.pairwise_cons.mp ha
    have h2 := List.pairwise_cons.mp hb
    have e : a = b := by
      have p := (h a).mp (List.mem_cons_self ..)
      have q := (h b).mpr (List.mem_cons_self ..)
      rcases List.mem_cons.mp p with p | p
      · exact p
      · rcases List.mem_cons.mp q with q | q
        · exact q.symm
        · have := h1.1 b q
          have := h2.1 a p
          omega
    subst e
    congr 1
    refine strict_ext A B h1.2 h2.2 (fun n => ⟨fun p => ?_, fun p => ?_⟩)
    · rcases List.mem_cons.mp ((h n).mp (List.mem_cons_of_mem _ p)) with q | q
      · have := h1.1 n p; omega
      · exact q
    · rcases List.mem_cons.mp ((h n).mpr (List.mem_cons_of_mem _ p)) with q | q
      · have := h2.1 n p; omega
      · exact q
def addK (acc : List Int) (v : Int) : List Int := if v ∈ acc then acc else acc ++ [v]
theorem addK_ok : ∀ (L acc : List Int), acc.Nodup → (L.foldl addK acc).Nodup ∧ ∀ x, x ∈ L.foldl addK acc ↔ x ∈ acc ∨ x ∈ L
  | [], acc, h => ⟨h, fun x => by simp⟩
  | v :: L, acc, h => by
    rw [List.foldl_cons]
    by_cases c : v ∈ acc
    · rw [show addK acc v = acc from if_pos c]
      have IH := addK_ok L acc h
      refine ⟨IH.1, fun x => ?_⟩
      rw [IH.2 x, List.mem_cons]
      constructor
      · rintro (h | h)
        · exact .inl h
        · exact .inr (.inr h)
      · rintro (h | h | h)
        · exact .inl h
        · rw [h]; exact .inl c
        · exact .inr h
    · rw [show addK acc v = acc ++ [v] from if_neg c]
      have IH := addK_ok L (acc ++ [v]) (List.nodup_append.mpr ⟨h, by simp, fun a ha b hb => by simp at hb; subst hb; exact fun q => c (q ▸ ha)⟩)
      refine ⟨IH.1, fun x => ?_⟩
      rw [IH.2 x, List.mem_append, List.mem_singleton, List.mem_cons]
      constructor
      · rintro ((h | h) | h)
        · exact .inl h
        · exact .inr (.inl h)
        · exact .inr (.inr h)
      · rintro (h | h | h)
        · exact .inl (.inl h)
        · exact .inl (.inr h)
        · exact .inr h
/-- The keys, increasing. -/
def keysT (L : List Int) : List Int := srtI (L.foldl addK [])
theorem keysT_of {L xs : List Int} (h : xs.Nodup ∧ ∀ n, n ∈ xs ↔ n ∈ L) : srtI xs = keysT L := by
  have h1 := srtI_ok xs h.1
  have h2 := addK_ok L [] List.nodup_nil
  have h3 := srtI_ok (L.foldl addK []) h2.1
  exact strict_ext _ _ h1.1 h3.1 (fun n => by rw [h1.2, h.2]; exact (keysT_mem_ h3 h2).symm)
where
  keysT_mem_ {L : List Int} {n : Int} (h3 : (srtI (L.foldl addK [])).Pairwise (fun a b => a < b) ∧ ∀ n, n ∈ srtI (L.foldl addK []) ↔ n ∈ L.foldl addK []) (h2 : (L.foldl addK []).Nodup ∧ ∀ x, x ∈ L.foldl addK [] ↔ x ∈ ([] : List Int) ∨ x ∈ L) : n ∈ srtI (L.foldl addK []) ↔ n ∈ L := by
    rw [h3.2, h2.2]
    simp


theorem keys_R_ {w : World} {base g cap : Nat} {xs : List Int} (h : w.ownsRow base 3 1 (.slice (some ⟨g, 0, none⟩) xs.length cap) xs.length ((srtI xs).map (Value.int .i64))) : Kd.R (Kd.int .i64) 3 w base (fun _ => True) (.slice (some ⟨g, 0, none⟩) xs.length cap) (srtI xs) := by
  have e : (srtI xs).length = xs.length := List.length_mergeSort xs
  exact Kd.R_of_own (by rw [e]; exact h) (fun _ _ => trivial)
theorem keys_start_ {w w1 w2 w3 w0 : World} {g Bm : Nat} (h1 : Below w.heap.size w w1) (hg : g = w1.heap.size) (hx : w2.heap[g]? = some (.cells #[] 3 (0, 0))) (h2 : Below w1.heap.size w1 w2) (hB : w2.heap.size ≤ Bm) (h3 : Below w2.heap.size w2 w3) (h0 : w3.grownBy w0 none) :
    Kd.R (Kd.int .i64) 3 w0 w.heap.size (fun k => k ≠ w3.heap.size ∧ k ≠ Bm) (.slice (some ⟨g, 0, none⟩) 0 0) [] ∧ Below w.heap.size w w0 := by
  have hlt := blk_lt hx
  have s1 := h1.size
  have s2 := h2.size
  have s3 := h3.size
  have hb := below_then (below_then h1 h1.size h2) (Nat.le_trans s1 s2) h3
  refine ⟨Kd.R_step (w := w3) (Kd.R_step (w := w2) (Kd.R_of_own ⟨rfl, .inr ⟨g, 0, #[], rfl, by omega, hx, Nat.le_refl _, by decide, rfl, rfl⟩⟩ (fun k hk => ?_)) (fun k _ hk => h3.block k hk)) (fun k _ hk => h0.block k hk (by simp)), pw_below_grown hb none hb.size h0 (fun k hk => by cases hk)⟩
  have e : g = k := Option.some.inj hk
  subst e
  exact ⟨by omega, by omega⟩
def impl_NumbersMade.f (k : Nat) (a0 : ByteArray) : Option (List Int × Bool) := (impl_areSome.f k a0).bind fun g => if g = true then some (keysT (numT a0 true), true) else some (([] : List Int), false)
theorem impl_NumbersMade.mono : ∀ a0 k, LeO (impl_NumbersMade.f k a0) (impl_NumbersMade.f (k + 1) a0) := by
  intro a0 k
  unfold impl_NumbersMade.f
  exact LeO.bind (impl_areSome.mono _ _) (fun _ => LeO.refl _)
theorem knear_has_ {D : DataW Unit} {n c : Int} (h : ∀ zd, D.atKey (.int .i64 n) zd = .lit (.int .i64 c)) : Maps.has D (.int .i64 n) = true := Maps.has_true_of_atKey h
theorem num_most_ (ds : ByteArray) (plain : Bool) (h : ds.size ≤ 7) : (numT ds plain).length ≤ 5000 := by
  have h1 := (num_len_ plain ds (ds.size - 1) 1 [] (startT ds) []).2
  exact Nat.le_trans h1 (num_small_ h)
set_option maxHeartbeats 8000000 in
set_option maxRecDepth 100000 in
theorem impl_NumbersMade.calls (k : Nat) (a0 : ByteArray) (r1 : List Int) (r2 : Bool) (w : World) (h : impl_NumbersMade.f k a0 = some (r1, r2)) :
    Calls Try.prog 20 #[.string a0] w fun e w' => ∃ v0_ : Value, e = .returned (.tuple #[v0_, .bool r2]) ∧ Kd.R (Kd.int .i64) 3 w' w.heap.size (fun _ => True) v0_ r1 ∧ Below w.heap.size w w' := by
  obtain ⟨b, hg, h2⟩ := Option.bind_eq_some_iff.mp (show (impl_areSome.f k a0).bind _ = some (r1, r2) from h)
  clear h
  cases b with
  | false =>
    rw [if_neg (by simp)] at h2
    simp only [Option.some.injEq, Prod.mk.injEq] at h2
    obtain ⟨rfl, rfl⟩ := h2
    have HGL := Aside0.mk hg
    clear hg
    go_enter Try.func20, Try.ntmps20
    go_wp2_with (go_at_call 31; refine (impl_areSome.calls k a0 false _ HGL.out).mono ?_; rintro e w1 ⟨rfl, hd⟩; have HD := Aside0.mk hd; clear hd)
    go_ret2
    exact ⟨.slice none 0 0, rfl, Kd.R_nil _ _ _ _ _, HD.out.below.mono (Nat.le_refl _)⟩
  | true =>
    rw [if_pos rfl] at h2
    simp only [Option.some.injEq, Prod.mk.injEq] at h2
    obtain ⟨rfl, rfl⟩ := h2
    have HSZ := Aside0.mk (some_size_ hg)
    have HGL := Aside0.mk hg
    have HN5 := Aside0.mk (num_most_ a0 true HSZ.out.2)
    clear hg
    go_enter Try.func20, Try.ntmps20
    go_wp2_with (first | (go_at_call 31; refine (impl_areSome.calls k a0 true _ HGL.out).mono ?_; rintro e w1 ⟨rfl, hd⟩; have HD := Aside0.mk (show Below w.heap.size w w1 from hd.below.mono (Nat.le_refl _)); clear hd) | ((with_reducible refine gate_dst (N := 9) rfl ?_); refine lit_event_ ?hg (N := 9) ?hd (cs := #[]) (t := 3) (fun g => .slice (some ⟨g, 0, none⟩) 0 0) ?hr ?_; (case hd => rfl); (case hg => rfl); (case hr => first | (go_simp; done) | (go_simp; rfl)); intro g hg2 w2 hx2 hb2; have HG2 := Aside0.mk hg2; have HX2 := Aside0.mk hx2; have HB2 := Aside0.mk hb2; clear hg2 hx2 hb2) | (go_at_call 27; refine (numbers_calls a0 HSZ.out.1 HSZ.out.2 true _).mono ?_; rintro e w3 ⟨Bm, rfl, hBm, hown, hb3⟩; have HB3 := Aside0.mk hb3; have HO := Aside0.mk hown; have HBM := Aside0.mk hBm; clear hb3 hown hBm) | (at_range; refine wpList_range_own _ rfl _ 36 rfl 3 3 lawK Try.underlying36 _ Bm (numT a0 true).length _ rfl HO.out ?_; intro w0 hrg0 hg0 hs0; have HRG0 := Aside0.mk hrg0; have HG0 := Aside0.mk hg0; clear hrg0 hg0 hs0))
    go_frame
    have HST := Aside0.mk (keys_start_ HD.out HG2.out HX2.out HB2.out HBM.out HB3.out HG0.out)
    have HK5 := Aside0.mk (show Maps.size (mapOf (numT a0 true)) ≤ 5000 from Nat.le_trans HO.out.size_le HN5.out)
    go_loopg [4] (Maps.size (mapOf (numT a0 true))) (fun kq v4 w' => ∃ (v : Value) (xs : List Int) (left : Lit → Bool) (cnt : Nat), v4 = v ∧ Aside0 (cnt ≤ kq) ∧ Aside0 (xs.length + kq ≤ Maps.size (mapOf (numT a0 true))) ∧ Aside0 (KeyR (numT a0 true) left xs) ∧ Aside0 (w'.ranges Try.prog 3 (plainElem (H := Unit) Try.prog 3) Bm w3.heap.size (numT a0 true).length (mapOf (numT a0 true)) left cnt) ∧ Aside0 (Kd.R (Kd.int .i64) 3 w' w.heap.size (fun k => k ≠ w3.heap.size ∧ k ≠ Bm) v xs) ∧ Aside0 (Below w.heap.size w w'))
    case atStart => exact ⟨_, [], _, _, rfl, ⟨Nat.le_refl _⟩, ⟨by simp⟩, ⟨keyR_start _ _ (fun n hn => by rw [has_mapOf_]; exact decide_eq_true hn)⟩, HRG0, ⟨HST.out.1⟩, ⟨HST.out.2⟩⟩
    case round =>
      obtain ⟨v, xs, left, cnt, rfl, HCN, HLN, HKR, HRG, HRR, HBW⟩ := hrel
      cases gk with
      | zero =>
        go_wp2_with (at_next; refine wpList_next_ranges_ii _ rfl _ rfl 3 3 .i64 .i64 lawK Try.underlying3 Try.underlying3 Bm w3.heap.size (numT a0 true).length _ _ _ rfl HRG.out ?_ ?_)
        · intro _ hl0
          have HE := Aside0.mk (keysT_of (keyR_end HKR.out hl0))
          clear hl0
          have hown := Kd.own_of_R HRR.out
          rcases hown.2 with ⟨hnil, h0⟩ | ⟨g4, cap4, cur4, hv4, hbase4, hb4, hc1, hc2, hc3, hc4⟩
          · subst hnil
            obtain rfl : xs = [] := List.length_eq_zero_iff.mp h0
            go_wp2_with (go_at_call 33; refine (sort_none_ none 0 _).mono ?_; rintro e w9 ⟨rfl, rfl⟩)
            go_ret2
            exact ⟨.slice none 0 0, rfl, by rw [← HE.out, show srtI [] = [] from List.length_eq_zero_iff.mp (List.length_mergeSort [])]; exact Kd.R_nil _ _ _ _ _, HBW.out⟩
          · subst hv4
            have hH : Go.Sort.Holds (Value.int .i64) _ g4 0 xs.toArray := holds_of_blockI hb4 (by rw [Nat.mul_one] at hc4; exact hc4)
            have HC := Aside0.mk (sort_int_ g4 0 cap4 xs _ hH (Array.getElem?_eq_some_iff.1 hb4).1 (by have := HLN.out; have := HK5.out; omega))
            have HOS := Aside0.mk (fun (nn : Nat) (os : Array Obj) => ownsRow_sortedI (n := nn) (os := os) (ss := xs) (ts := srtI xs) (List.length_mergeSort xs) hbase4 hb4 hc1 hc2 hc3)
            have HBB := Aside0.mk hbase4
            clear hH hown hb4 hc1 hc2 hc3 hc4 hbase4
            go_wp2_with (go_at_call 33; refine HC.out.mono ?_; rintro e w9 ⟨rfl, nn, os, rfl⟩)
            go_ret2
            refine ⟨_, rfl, by rw [← HE.out]; exact keys_R_ (HOS.out nn os), ?_⟩
            exact pw_below_grown HBW.out (some g4) HBW.out.size (grownBy_sortedI _) (fun k hk => by cases hk; exact HBB.out)
        · intro x c w5 cnt5 _ _ _ _ _ hlt5
          exact absurd hlt5 (by have := HCN.out; omega)
      | succ gk =>
        go_wp2_with (at_next; refine wpList_next_ranges_ii _ rfl _ rfl 3 3 .i64 .i64 lawK Try.underlying3 Try.underlying3 Bm w3.heap.size (numT a0 true).length _ _ _ rfl HRG.out ?_ ?_)
        · intro _ hl0
          have HE := Aside0.mk (keysT_of (keyR_end HKR.out hl0))
          clear hl0
          have hown := Kd.own_of_R HRR.out
          rcases hown.2 with ⟨hnil, h0⟩ | ⟨g4, cap4, cur4, hv4, hbase4, hb4, hc1, hc2, hc3, hc4⟩
          · subst hnil
            obtain rfl : xs = [] := List.length_eq_zero_iff.mp h0
            go_wp2_with (go_at_call 33; refine (sort_none_ none 0 _).mono ?_; rintro e w9 ⟨rfl, rfl⟩)
            go_ret2
            exact ⟨.slice none 0 0, rfl, by rw [← HE.out, show srtI [] = [] from List.length_eq_zero_iff.mp (List.length_mergeSort [])]; exact Kd.R_nil _ _ _ _ _, HBW.out⟩
          · subst hv4
            have hH : Go.Sort.Holds (Value.int .i64) _ g4 0 xs.toArray := holds_of_blockI hb4 (by rw [Nat.mul_one] at hc4; exact hc4)
            have HC := Aside0.mk (sort_int_ g4 0 cap4 xs _ hH (Array.getElem?_eq_some_iff.1 hb4).1 (by have := HLN.out; have := HK5.out; omega))
            have HOS := Aside0.mk (fun (nn : Nat) (os : Array Obj) => ownsRow_sortedI (n := nn) (os := os) (ss := xs) (ts := srtI xs) (List.length_mergeSort xs) hbase4 hb4 hc1 hc2 hc3)
            have HBB := Aside0.mk hbase4
            clear hH hown hb4 hc1 hc2 hc3 hc4 hbase4
            go_wp2_with (go_at_call 33; refine HC.out.mono ?_; rintro e w9 ⟨rfl, nn, os, rfl⟩)
            go_ret2
            refine ⟨_, rfl, by rw [← HE.out]; exact keys_R_ (HOS.out nn os), ?_⟩
            exact pw_below_grown HBW.out (some g4) HBW.out.size (grownBy_sortedI _) (fun k hk => by cases hk; exact HBB.out)
        · intro x c w5 cnt5 hwx hwc hlx hat hrg5 hlt5 hg5 hs5 hen
          have HKR5 := Aside0.mk (keyR_step HKR.out (of_decide_eq_true ((has_mapOf_ (numT a0 true) x).symm.trans (knear_has_ hat))) hlx)
          have HRG5 := Aside0.mk hrg5
          have HR5 := Aside0.mk (Kd.R_grown HRR.out hg5 (fun k hk e => hk.1 (Option.some.inj e)))
          have HB5 := Aside0.mk (pw_below_grown HBW.out (some w3.heap.size) HBW.out.size hg5 (fun k hk => by cases hk; exact Nat.le_trans HD.out.size (Nat.le_trans HB2.out.size HB3.out.size)))
          have HFR := Aside0.mk (show ∀ k, w5.heap.size ≤ k → (k ≠ w3.heap.size ∧ k ≠ Bm) from fun k hk => ⟨by have := hrg5.lt; omega, by have := hrg5.owns.lt; omega⟩)
          have HLT5 := Aside0.mk (show cnt5 ≤ gk by have := HCN.out; omega)
          clear hwx hwc hlx hat hrg5 hlt5 hg5 hs5 HRG HKR HRR HBW HCN
          go_wp2_with ((with_reducible refine gate_builtin (b := .append) (xs := #[.tmp 17, .tmp 19]) rfl ?_); at_builtin; refine Kd.R_append (Kd.int .i64) (w0 := w) w.heap.size rfl (.tmp 17) (.tmp 19) 29 3 (.int .i64 0) 8 rfl Try.underlying29 info3 rfl (by decide) (by omega) _ xs x [.int .i64 x] (fun k => k ≠ w3.heap.size ∧ k ≠ Bm) (fun _ => False) rfl rfl rfl (fun _ hk => hk.elim) HFR.out HR5.out HB5.out HB5.out.size (by have := HLN.out; have := HK5.out; omega) ?_; intro v6 w6 ho hb hg hat; have HO6 := Aside0.mk ho; have HB6 := Aside0.mk hb; have HRG6 := Aside0.mk (HRG5.out.kept hg (Kd.R_away HR5.out (fun k hk => hk.2)) (Kd.R_away HR5.out (fun k hk => hk.1))); clear ho hb hg hat)
          go_roundg gk
          case measure => omega
          case rel => exact ⟨v6, xs ++ [x], _, cnt5, by go_num, HLT5, ⟨by have := HLN.out; rw [List.length_append]; simp; omega⟩, HKR5, HRG6, HO6, HB6⟩

end Go.Proofs.Ytmodpjlbbmfbaaa.PFnExactNumbersMade
