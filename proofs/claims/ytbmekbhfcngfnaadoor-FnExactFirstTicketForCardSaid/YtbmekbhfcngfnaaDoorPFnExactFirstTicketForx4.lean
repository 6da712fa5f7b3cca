-- Laid by a program of this session (wip/myprint.py) out of the translation; some contracts in it are the session's own.
import Derived.Test.YtbmekbhfcngfnaaDoorPFnExactFirstTicketForx0
import Derived.Test.YtbmekbhfcngfnaaDoorPFnExactFirstTicketForx3
namespace Go.Proofs.YtbmekbhfcngfnaaDoor.PFnExactFirstTicketFor
open Go.RowKit Go.Proofs.YtbmekbhfcngfnaaDoorW.PrintWords Go.Proofs.YtbmekbhfcngfnaaDoorW.PrintLast Go.Proofs.YtbmekbhfcngfnaaDoorW.PrintMore
attribute [local go_sem] max2_int min2_int max_two min_two max_three min_three max_four min_four   -- for this text's walks alone
set_option linter.unusedVariables false
set_option linter.unusedSimpArgs false

/-! ### impl_FirstTicketFor: function 8 -/
-- --making
-- included rowkit
/-- Block B's first n cells are the bytes xs, and none of them is frozen. -/
def RowB (W : World) (B n : Nat) (xs : List Int) : Prop :=
  B < W.heap.size ∧ xs.length = n ∧ (∀ j : Nat, j < n → W.cell? ⟨B, j, none⟩ = some (.int .u8 (rd xs j))) ∧ (∀ j : Nat, j < n → W.frozen? ⟨B, j, none⟩ = false)
theorem rowB_made (w : World) (s : ByteArray) (cap : Nat) (e : TypeId) :
    RowB (w.alloc (.cells (bytesRow s cap) e ((bytesRow s cap).size, (bytesRow s cap).size + 1))) w.heap.size s.size (bytesOf s) := by
  have hs : s.size ≤ (bytesRow s cap).size := by
    have h1 : s.data.size = s.size := rfl
    simp [bytesRow] <;> omega
  refine ⟨by simp, bytesOf_length s, fun j hj => ?_, fun j hj => ?_⟩
  · rw [World.cell?_alloc_mark]
    have h0 : j < s.data.size := hj
    have h1 : j < (s.data.map (fun b => Value.int .u8 b.toNat)).size := by simpa using h0
    unfold bytesRow
    rw [Array.getElem?_append_left h1, Array.getElem?_eq_getElem h1]
    rw [rd_bytesOf]
    have hb : bt s (j : Int) = (s.data[j].toNat : Int) := by
      unfold bt
      have h2 : (j : Int).toNat < s.size := by simpa using hj
      rw [dif_pos h2]
      rfl
    rw [hb]
    simp
  · rw [World.frozen?_alloc_mark]
    simp; omega
theorem rowB_set {W : World} {B n : Nat} {xs : List Int} (h : RowB W B n xs) (i : Nat) (hi : i < n) (v : Int) :
    RowB (W.setCell ⟨B, i, none⟩ (.int .u8 v)) B n (xs.set i v) := by
  obtain ⟨h0, h1, h2, h3⟩ := h
  refine ⟨by simpa [World.setCell] using h0, by simpa using h1, fun j hj => ?_, fun j hj => ?_⟩
  · by_cases e : j = i
    · subst e
      rw [World.cell?_setCell_same (h := h2 j hj)]
      have : j < xs.length := by omega
      simp [rd, this]
    · rw [World.cell?_setCell_other (w := W) (a := ⟨B, i, none⟩) (b := ⟨B, j, none⟩) (h := fun c => e (congrArg Addr.off c).symm), h2 j hj]
      have e' : ¬ i = j := fun c => e c.symm
      simp [rd, List.getD_eq_getElem?_getD, List.getElem?_set, e']
  · rw [World.frozen?_setCell]; exact h3 j hj
theorem rowB_block {W W' : World} {B n : Nat} {xs : List Int} (h : RowB W B n xs) (hb : W'.heap[B]? = W.heap[B]?) : RowB W' B n xs := by
  obtain ⟨h0, h1, h2, h3⟩ := h
  have hs : B < W'.heap.size := by
    rcases Nat.lt_or_ge B W'.heap.size with h | h
    · exact h
    · rw [Array.getElem?_eq_none h] at hb
      rw [Array.getElem?_eq_getElem h0] at hb
      cases hb
  exact ⟨hs, h1, fun j hj => (World.cell?_of_block (w := W) hb).trans (h2 j hj), fun j hj => (World.frozen?_of_block (w := W) hb).trans (h3 j hj)⟩
theorem rowB_below {W W' : World} {B n : Nat} {xs : List Int} (h : RowB W B n xs) (hb : Below W.heap.size W W') : RowB W' B n xs := rowB_block h (hb.block B h.1)
theorem rowB_drewN {W : World} {B n : Nat} {xs : List Int} (h : RowB W B n xs) (m : Nat) : RowB (W.drewN m) B n xs := rowB_block h rfl
/-- 'string(b)' of such a row. -/
theorem rowB_string {P : Program} {W : World} {B n cap : Nat} {xs : List Int} {src dst e : TypeId} (h : RowB W B n xs) (hx : ∀ c ∈ xs, 0 ≤ c ∧ c < 256)
    (hs : P.underlying src = some (.slice e)) (he : P.underlying e = some (.int .u8)) (hd : P.underlying dst = some .string) :
    (convert src dst (.slice (some ⟨B, 0, none⟩) n cap)).run P W = .ok (.string (strOfNums xs)) W := by
  obtain ⟨h0, h1, h2, h3⟩ := h
  have := run_convert_bytes_back (P := P) W src dst e ⟨B, 0, none⟩ cap (xs.map fun c => UInt8.ofNat c.toNat) hs he hd (fun j hj => by
    have hj' : j < n := by simpa [h1] using hj
    have hj2 : j < xs.length := by omega
    have hm := hx xs[j] (List.getElem_mem hj2)
    rw [Addr.add_lit, Nat.zero_add, h2 j hj']
    simp [rd, hj2]
    omega)
  rw [show (xs.map fun c => UInt8.ofNat c.toNat).length = n by simpa using h1] at this
  rw [this]
  simp [strOfNums]

-- included closures3
theorem setCell_size_ (w : World) (p : Addr) (v : Value) : (w.setCell p v).heap.size = w.heap.size := by simp [World.setCell]
def onT (r : Int × Int × Int) (s x : Int) : Int × Int × Int :=
  if s = 42 then (r.1, wrap64 (r.2.1 * r.2.2), (x - 48) % 256) else if s = 43 then (wrap64 (r.1 + wrap64 (r.2.1 * r.2.2)), 1, (x - 48) % 256) else if s = 45 then (wrap64 (r.1 + wrap64 (r.2.1 * r.2.2)), -1, (x - 48) % 256) else (r.1, r.2.1, wrap64 (wrap64 (10 * r.2.2) + (x - 48) % 256))
def valT (r : Int × Int × Int) : Int := wrap64 (r.1 + wrap64 (r.2.1 * r.2.2))
theorem on_some_ (r : Int × Int × Int) (s x : Int) : impl_reckoner_on.f r.1 r.2.1 r.2.2 s x = some ((onT r s x).1, (onT r s x).2.1, (onT r s x).2.2) := by
  unfold impl_reckoner_on.f impl_reckoner_value.f onT
  by_cases h1 : s = 42
  · rw [if_pos h1, if_pos h1]
  · rw [if_neg h1, if_neg h1]
    by_cases h2 : s = 43
    · rw [if_pos h2, if_pos h2]; rfl
    · rw [if_neg h2, if_neg h2]
      by_cases h3 : s = 45
      · rw [if_pos h3, if_pos h3]; rfl
      · rw [if_neg h3, if_neg h3]
theorem val_some_ (r : Int × Int × Int) : impl_reckoner_value.f r.1 r.2.1 r.2.2 = some (valT r) := rfl
def roundsT {σ : Type} (g : Int → σ → σ × Bool) : List Int → σ → σ × Bool
  | [], st => (st, true)
  | s :: l, st => if (g s st).2 = true then roundsT g l (g s st).1 else ((g s st).1, false)
def dfsT {σ : Type} (f : σ → List Int → Int → σ × Bool) (ds : ByteArray) : Nat → Nat → List Int → Int × Int × Int → σ → σ × Bool
  | 0, _, pre, r, st => f st pre (valT r)
  | d + 1, i, pre, r, st => roundsT (fun s st => dfsT f ds d (i + 1) (pre ++ [s]) (onT r s (bt ds (i : Int))) st) [42, 43, 45, 0] st
/-- What a set of blocks keeps. -/
structure BelowP (P : Nat → Prop) (w w' : World) : Prop where
  os : w'.os = w.os
  tape : w'.tape = w.tape
  output : w'.output = w.output
  size : w.heap.size ≤ w'.heap.size
  block : ∀ k, P k → w'.heap[k]? = w.heap[k]?
theorem BelowP.refl (P : Nat → Prop) (w : World) : BelowP P w w := ⟨rfl, rfl, rfl, Nat.le_refl _, fun _ _ => rfl⟩
theorem BelowP.trans {P : Nat → Prop} {a b c : World} (h : BelowP P a b) (k : BelowP P b c) : BelowP P a c :=
  ⟨k.os.trans h.os, k.tape.trans h.tape, k.output.trans h.output, Nat.le_trans h.size k.size, fun i hi => (k.block i hi).trans (h.block i hi)⟩
theorem BelowP.mono {P Q : Nat → Prop} {a b : World} (h : BelowP P a b) (hq : ∀ k, Q k → P k) : BelowP Q a b := ⟨h.os, h.tape, h.output, h.size, fun k hk => h.block k (hq k hk)⟩
theorem belowP_of {P : Nat → Prop} {a b : World} (h : Below a.heap.size a b) (hP : ∀ k, P k → k < a.heap.size) : BelowP P a b := ⟨h.os, h.tape, h.output, h.size, fun k hk => h.block k (hP k hk)⟩
theorem belowP_set {P : Nat → Prop} {a w : World} (h : BelowP P a w) {b : Nat} (hb : ¬ P b) (o : Nat) (u : Value) : BelowP P a (w.setCell ⟨b, o, none⟩ u) :=
  ⟨h.os, h.tape, h.output, by simpa [World.setCell] using h.size, fun k hk => (Below.heap_setCell w _ u k (fun e => hb (by have e2 : k = b := e; rw [← e2]; exact hk))).trans (h.block k hk)⟩
theorem below_cell_ {w w' : World} (h : Below w.heap.size w w') {p : Addr} {v : Value} (hc : w.cell? p = some v) : w'.cell? p = some v := (h.cell (World.block_lt_of_cell? w p hc)).trans hc
theorem belowP_cell_ {P : Nat → Prop} {w w' : World} (h : BelowP P w w') {p : Addr} (hp : P p.block) {v : Value} (hc : w.cell? p = some v) : w'.cell? p = some v := (World.cell?_of_block (w := w) (h.block _ hp)).trans hc
/-- What 'choose' captured. -/
structure EnvC (Bd Be Br Bs Bc m g : Nat) (caps : Array Value) (ds : ByteArray) (w : World) : Prop where
  d : w.cell? ⟨Bd, 0, none⟩ = some (.string ds)
  e : w.cell? ⟨Be, 0, none⟩ = some (.func (.func g) #[] caps)
  s : w.cell? ⟨Bs, 0, none⟩ = some (.slice (some ⟨Br, 0, none⟩) m m)
  c : w.cell? ⟨Bc, 0, none⟩ = some (.func (.func 22) #[] #[.pointer (some ⟨Bd, 0, none⟩), .pointer (some ⟨Be, 0, none⟩), .pointer (some ⟨Bs, 0, none⟩), .pointer (some ⟨Bc, 0, none⟩)])
theorem EnvC.keep {Bd Be Br Bs Bc m g : Nat} {caps : Array Value} {ds : ByteArray} {w w' : World} (h : EnvC Bd Be Br Bs Bc m g caps ds w) (h1 : w'.heap[Bd]? = w.heap[Bd]?) (h2 : w'.heap[Be]? = w.heap[Be]?) (h3 : w'.heap[Bs]? = w.heap[Bs]?) (h4 : w'.heap[Bc]? = w.heap[Bc]?) : EnvC Bd Be Br Bs Bc m g caps ds w' :=
  ⟨(World.cell?_of_block (w := w) h1).trans h.d, (World.cell?_of_block (w := w) h2).trans h.e, (World.cell?_of_block (w := w) h3).trans h.s, (World.cell?_of_block (w := w) h4).trans h.c⟩
theorem EnvC.keepP {Bd Be Br Bs Bc m g : Nat} {caps : Array Value} {ds : ByteArray} {w w' : World} {P : Nat → Prop} (h : EnvC Bd Be Br Bs Bc m g caps ds w) (k : BelowP P w w') (h1 : P Bd) (h2 : P Be) (h3 : P Bs) (h4 : P Bc) : EnvC Bd Be Br Bs Bc m g caps ds w' :=
  h.keep (k.block _ h1) (k.block _ h2) (k.block _ h3) (k.block _ h4)
theorem lit_event_ {P : Program} {ops : Array Oper} {rest : List Oper} {o : Oper} {a : Act} {Q : Exit → Act → World → Prop} {W : World} (hgd : o.guard = none) {N : Tmp} (_hd : o.dst = some N) {cs : Array Value} {t : TypeId} (v : Nat → Value)
    (hrun : (execOp a.eval o).run P W = .ok (.value (v W.heap.size)) (W.alloc (.cells cs t (0, 0))))
    (h : ∀ g, g = W.heap.size → ∀ w1, w1.heap[g]? = some (.cells cs t (0, 0)) → Below W.heap.size W w1 → wpList P ops Q rest (a.put o.dst (v g)) w1) : wpList P ops Q (o :: rest) a W :=
  Kd.event_run hgd hrun (h _ rfl _ (blk_new W _) (below_alloc (Below.refl _ _) _))
theorem take_set_ (l : List Int) (p : Nat) (s : Int) (h : p < l.length) : (l.set p s).take (p + 1) = l.take p ++ [s] := by
  rw [List.take_succ_eq_append_getElem (by rw [List.length_set]; exact h), List.getElem_set_self, List.take_set_of_le (Nat.le_refl p)]
theorem take_less_ {l pre : List Int} {p : Nat} {s : Int} (h : l.take (p + 1) = pre ++ [s]) (hp : pre.length = p) : l.take p = pre := by
  have := congrArg (List.take p) h
  rw [List.take_take, Nat.min_eq_left (Nat.le_succ p), ← hp, List.take_left'] at this
  · rw [← hp]; exact this
  · rfl
theorem roundsT_no_ {σ : Type} {g : Int → σ → σ × Bool} {s : Int} {l : List Int} {st st2 : σ} (h : g s st = (st2, false)) : roundsT g (s :: l) st = (st2, false) := by simp [roundsT, h]
theorem roundsT_yes_ {σ : Type} {g : Int → σ → σ × Bool} {s : Int} {l : List Int} {st st2 : σ} (h : g s st = (st2, true)) : roundsT g (s :: l) st = roundsT g l st2 := by simp [roundsT, h]
def sgsT : List Int := [42, 43, 45, 0]
theorem sgs_at_ (j : Nat) (hj : j < 4) : ∃ s, sgsT.drop j = s :: sgsT.drop (j + 1) ∧ (#[.int .u8 42, .int .u8 43, .int .u8 45, .int .u8 0] : Array Value)[j]? = some (.int .u8 s) := by
  match j, hj with
  | 0, _ => exact ⟨42, rfl, rfl⟩
  | 1, _ => exact ⟨43, rfl, rfl⟩
  | 2, _ => exact ⟨45, rfl, rfl⟩
  | 3, _ => exact ⟨0, rfl, rfl⟩
theorem rowB_zeros_ (w : World) (m : Nat) (e : TypeId) : RowB (w.alloc (.cells (madeCells (Value.int .u8 0).cells (m * 1)) e)) w.heap.size m (List.replicate m 0) := by
  refine ⟨by simp, by simp, fun j hj => ?_, fun j hj => ?_⟩
  · rw [World.cell?_alloc_mark]
    simp [madeCells, Value.cells, rd, hj, Nat.mod_one]
  · rw [World.frozen?_alloc_mark]
    simp

theorem make_event_ {P : Program} {ops : Array Oper} {rest : List Oper} {o : Oper} {a : Act} {Q : Exit → Act → World → Prop} {W : World} (e : TypeId) (hgd : o.guard = none) {N : Tmp} (_hd : o.dst = some N) (t : TypeId) (x y : Operand) (ho : o.op = .makeSlice t x y) (m : Nat) (hx : a.eval x = .int .i64 (m : Int)) (hy : a.eval y = .int .i64 (m : Int))
    (ht : P.underlying t = some (.slice e)) (hinfo : (P.info? e).map (fun i => (i.zero, i.size, i.bytes)) = some (some (.int .u8 0), 1, 1)) (hm : m ≤ 1000)
    (h : ∀ g, g = W.heap.size → ∀ w1, RowB w1 g m (List.replicate m 0) → Below W.heap.size W w1 → wpList P ops Q rest (a.put o.dst (.slice (some ⟨g, 0, none⟩) m m)) w1) : wpList P ops Q (o :: rest) a W := by
  obtain ⟨i, hi, hzz⟩ := Option.map_eq_some_iff.1 hinfo
  simp only [Prod.mk.injEq] at hzz
  obtain ⟨hz, h1, h2⟩ := hzz
  have hr := run_make (P := P) (w := W) t e i (.int .u8 0) ht hi hz .i64 .i64 (m : Int) (m : Int) (by omega) (by omega) (by rw [h2]; omega) (by omega)
  simp only [Int.toNat_natCast] at hr
  rw [h1] at hr
  refine Kd.event_run hgd ?_ (h _ rfl _ (rowB_zeros_ W m e) (below_alloc (Below.refl _ _) _))
  simp [execOp, ho, hx, hy, hr]
def roundsG {σ : Type} (g : Int → σ → Prop) (h : Int → σ → σ × Bool) : List Int → σ → Prop
  | [], _ => True
  | s :: l, st => g s st ∧ ((h s st).2 = true → roundsG g h l (h s st).1)
def dfsG {σ : Type} (G : σ → Int → Prop) (f : σ → List Int → Int → σ × Bool) (ds : ByteArray) : Nat → Nat → List Int → Int × Int × Int → σ → Prop
  | 0, _, _, r, st => G st (valT r)
  | d + 1, i, pre, r, st => roundsG (fun s st => dfsG G f ds d (i + 1) (pre ++ [s]) (onT r s (bt ds (i : Int))) st) (fun s st => dfsT f ds d (i + 1) (pre ++ [s]) (onT r s (bt ds (i : Int))) st) [42, 43, 45, 0] st
set_option maxHeartbeats 8000000 in
set_option maxRecDepth 100000 in
theorem choose_leaf3 {σ : Type} (ds : ByteArray) (Bd Be Br Bs Bc m g : Nat) (caps : Array Value) (I : (Nat → Prop) → σ → World → Prop) (f : σ → List Int → Int → σ × Bool) (G : σ → Int → Prop)
    (eg : ∀ args w, (callFunc g args).run Tryd.prog w = .ok (.enter g args) w)
    (hgo : ∀ (P : Nat → Prop) (w : World) (sg : List Int) (st : σ) (v : Int), (∀ k, P k → k < w.heap.size) → P Br → RowB w Br m sg → I P st w → G st v → Calls Tryd.prog g (#[.slice (some ⟨Br, 0, none⟩) m m, .int .i64 v] ++ caps) w fun e w' => e = .returned (.bool (f st sg v).2) ∧ I P (f st sg v).1 w' ∧ BelowP P w w')
    (hmono : ∀ (P Q : Nat → Prop) (st : σ) (w : World), (∀ k, Q k → P k ∨ w.heap.size ≤ k) → I P st w → I Q st w)
    (hstab : ∀ (P : Nat → Prop) (st : σ) (w w' : World), I P st w → (∀ k, k < w.heap.size → k ≠ Br → w'.heap[k]? = w.heap[k]?) → w.heap.size ≤ w'.heap.size → I P st w')
    (P : Nat → Prop) (w : World) (row : List Int) (r1 r2 r3 : Int) (st : σ) (hP : ∀ k, P k → k < w.heap.size) (pd : P Bd) (pe : P Be) (pr : P Br) (ps : P Bs) (pc : P Bc) (hE : EnvC Bd Be Br Bs Bc m g caps ds w) (hR : RowB w Br m row) (hI : I P st w) (hG : G st (valT (r1, r2, r3))) :
    Calls Tryd.prog 22 #[.int .i64 (ds.size : Int), .agg #[.int .i64 r1, .int .i64 r2, .int .i64 r3], .pointer (some ⟨Bd, 0, none⟩), .pointer (some ⟨Be, 0, none⟩), .pointer (some ⟨Bs, 0, none⟩), .pointer (some ⟨Bc, 0, none⟩)] w fun e w' =>
      e = .returned (.bool (f st row (valT (r1, r2, r3))).2) ∧ I P (f st row (valT (r1, r2, r3))).1 w' ∧ BelowP P w w' := by
  have hu := Tryd.underlying38
  have HE := Aside0.mk hE
  have HR := Aside0.mk hR
  have HI := Aside0.mk hI
  have HGG := Aside0.mk hG
  clear hG
  have HP := Aside0.mk hP
  have HPS := Aside0.mk (And.intro pd (And.intro pe (And.intro pr (And.intro ps pc))))
  clear hE hR hI hP pd pe pr ps pc
  have HGO := Aside0.mk hgo
  have HST := Aside0.mk hstab
  have HMO := Aside0.mk hmono
  clear hgo hstab hmono
  go_enter Tryd.func22, Tryd.ntmps22
  go_wp2_with ((with_reducible refine gate_dst (N := 7) rfl ?_); refine box_event ?hg (N := 7) ?hd (cs := #[.int .i64 r1, .int .i64 r2, .int .i64 r3]) (t := 38) ?hr ?_; (case hd => rfl); (case hg => rfl); (case hr => first | (go_simp; done) | (go_simp; rfl)); intro gb hg w2 hbox hb; have HB2 := Aside0.mk hb; have HBP := Aside0.mk (belowP_of hb HP.out); have HE2 := Aside0.mk (HE.out.keepP HBP.out HPS.out.1 HPS.out.2.1 HPS.out.2.2.2.1 HPS.out.2.2.2.2); have hcd := HE2.out.d; have hce := HE2.out.e; have hcs := HE2.out.s; have hb0 : w2.cell? ⟨gb, 0, none⟩ = some (.int .i64 r1) := (blk_cell hbox 0).trans rfl; have hb1 : w2.cell? ⟨gb, 1, none⟩ = some (.int .i64 r2) := (blk_cell hbox 1).trans rfl; have hb2 : w2.cell? ⟨gb, 2, none⟩ = some (.int .i64 r3) := (blk_cell hbox 2).trans rfl; have HG := Aside0.mk hg; have HBX := Aside0.mk hbox; clear hb hg hbox)
  have HR2 := Aside0.mk (rowB_block HR.out (HBP.out.block _ HPS.out.2.2.1))
  have HI1 := Aside0.mk (HMO.out P (fun k => P k ∨ k = gb) st w (fun k hk => hk.imp id (fun e => by rw [e, HG.out]; exact Nat.le_refl _)) HI.out)
  have HP2 := Aside0.mk (show ∀ k, (P k ∨ k = gb) → k < w2.heap.size from fun k hk => hk.elim (fun h => Nat.lt_of_lt_of_le (HP.out k h) HB2.out.size) (fun e => by rw [e]; exact blk_lt HBX.out))
  go_region_held3 (fun w' => w'.cell? ⟨Be, 0, none⟩ = some (.func (.func g) #[] caps) ∧ w'.cell? ⟨Bs, 0, none⟩ = some (.slice (some ⟨Br, 0, none⟩) m m) ∧ w'.cell? ⟨gb, 0, none⟩ = some (.int .i64 r1) ∧ w'.cell? ⟨gb, 1, none⟩ = some (.int .i64 r2) ∧ w'.cell? ⟨gb, 2, none⟩ = some (.int .i64 r3))
    (first | exact ⟨hce, hcs, hb0, hb1, hb2⟩ | exact hS3 | exact hS4)
    (first | (go_at_call 23; refine (impl_reckoner_value.calls r1 r2 r3 _ _ (val_some_ (r1, r2, r3))).mono ?_; rintro e w3 ⟨rfl, hb3⟩; have hb3' : Below w2.heap.size w2 w3 := ⟨hb3.os, hb3.tape, hb3.output, hb3.size, hb3.block⟩; clear hb3; have hS3 := And.intro (below_cell_ hb3' hce) (And.intro (below_cell_ hb3' hcs) (And.intro (below_cell_ hb3' hb0) (And.intro (below_cell_ hb3' hb1) (below_cell_ hb3' hb2)))); have HB3 := Aside0.mk hb3'; clear hb3') | (go_at_fn g; refine (HGO.out (fun k => P k ∨ k = gb) w3 row st _ (fun k hk => Nat.lt_of_lt_of_le (HP2.out k hk) HB3.out.size) (.inl HPS.out.2.2.1) (rowB_below HR2.out HB3.out) (HST.out _ st w w3 HI1.out (fun k hk _ => ((below_then HB2.out HB2.out.size HB3.out).block k hk)) (Nat.le_trans HB2.out.size HB3.out.size)) HGG.out).mono ?_; rintro e w4 ⟨rfl, hi4, hb4⟩; have hS4 := And.intro (belowP_cell_ hb4 (.inl HPS.out.2.1) hS3.1) (And.intro (belowP_cell_ hb4 (.inl HPS.out.2.2.2.1) hS3.2.1) (And.intro (belowP_cell_ hb4 (.inr rfl) hS3.2.2.1) (And.intro (belowP_cell_ hb4 (.inr rfl) hS3.2.2.2.1) (belowP_cell_ hb4 (.inr rfl) hS3.2.2.2.2)))); have HI4 := Aside0.mk hi4; have HB4 := Aside0.mk hb4; clear hi4 hb4))
  go_wp2
  go_ret
  exact ⟨rfl, HMO.out _ P _ w4 (fun k hk => .inl (.inl hk)) HI4.out, (HBP.out.trans ((belowP_of HB3.out (fun k hk => HP2.out k (.inl hk))))).trans (HB4.out.mono (fun k hk => .inl hk))⟩
set_option maxHeartbeats 8000000 in
set_option maxRecDepth 100000 in
theorem choose_calls3 {σ : Type} (ds : ByteArray) (hds : ds.size ≤ 1000) (Bd Be Br Bs Bc m g : Nat) (caps : Array Value) (I : (Nat → Prop) → σ → World → Prop) (f : σ → List Int → Int → σ × Bool) (G : σ → Int → Prop)
    (hm : m + 1 = ds.size) (hne : Bd ≠ Br ∧ Be ≠ Br ∧ Bs ≠ Br ∧ Bc ≠ Br)
    (eg : ∀ args w, (callFunc g args).run Tryd.prog w = .ok (.enter g args) w)
    (hgo : ∀ (P : Nat → Prop) (w : World) (sg : List Int) (st : σ) (v : Int), (∀ k, P k → k < w.heap.size) → P Br → RowB w Br m sg → I P st w → G st v → Calls Tryd.prog g (#[.slice (some ⟨Br, 0, none⟩) m m, .int .i64 v] ++ caps) w fun e w' => e = .returned (.bool (f st sg v).2) ∧ I P (f st sg v).1 w' ∧ BelowP P w w')
    (hmono : ∀ (P Q : Nat → Prop) (st : σ) (w : World), (∀ k, Q k → P k ∨ w.heap.size ≤ k) → I P st w → I Q st w)
    (hstab : ∀ (P : Nat → Prop) (st : σ) (w w' : World), I P st w → (∀ k, k < w.heap.size → k ≠ Br → w'.heap[k]? = w.heap[k]?) → w.heap.size ≤ w'.heap.size → I P st w') :
    ∀ (d p : Nat) (x : Int) (P : Nat → Prop) (w : World) (row pre : List Int) (r1 r2 r3 : Int) (st : σ), p + 1 + d = ds.size → x = (p : Int) + 1 → pre.length = p → row.take p = pre → (∀ k, P k → k < w.heap.size) → P Bd ∧ P Be ∧ P Br ∧ P Bs ∧ P Bc → EnvC Bd Be Br Bs Bc m g caps ds w → RowB w Br m row → I P st w → dfsG G f ds d (p + 1) pre (r1, r2, r3) st →
    Calls Tryd.prog 22 #[.int .i64 x, .agg #[.int .i64 r1, .int .i64 r2, .int .i64 r3], .pointer (some ⟨Bd, 0, none⟩), .pointer (some ⟨Be, 0, none⟩), .pointer (some ⟨Bs, 0, none⟩), .pointer (some ⟨Bc, 0, none⟩)] w fun e w' =>
      e = .returned (.bool (dfsT f ds d (p + 1) pre (r1, r2, r3) st).2) ∧ I P (dfsT f ds d (p + 1) pre (r1, r2, r3) st).1 w' ∧ BelowP (fun k => P k ∧ k ≠ Br) w w' ∧ ∃ row' : List Int, RowB w' Br m row' ∧ row'.take p = pre
  | 0, p, x, P, w, row, pre, r1, r2, r3, st, hpd, hx, hpl, htk, hP, hPs, hE, hR, hI, hG => by
    have e1 : x = (ds.size : Int) := by omega
    have e2 : row = pre := by rw [← htk, List.take_of_length_le (by have := hR.2.1; omega)]
    subst e1 e2
    refine (choose_leaf3 ds Bd Be Br Bs Bc m g caps I f G eg hgo hmono hstab P w row r1 r2 r3 st hP hPs.1 hPs.2.1 hPs.2.2.1 hPs.2.2.2.1 hPs.2.2.2.2 hE hR hI hG).mono ?_
    rintro e w' ⟨rfl, h1, h2⟩
    exact ⟨rfl, h1, h2.mono (fun k hk => hk.1), row, rowB_block hR (h2.block _ hPs.2.2.1), htk⟩
  | d + 1, p, x, P, w, row, pre, r1, r2, r3, st, hpd, hx, hpl, htk, hP, hPs, hE, hR, hI, hG => by
    have IH := Aside0.mk (choose_calls3 ds hds Bd Be Br Bs Bc m g caps I f G hm hne eg hgo hmono hstab d)
    subst hx
    have hu := Tryd.underlying38
    have HE := Aside0.mk hE
    have HR := Aside0.mk hR
    have HI := Aside0.mk hI
    have HGG := Aside0.mk (show roundsG (fun s st => dfsG G f ds d (p + 1 + 1) (pre ++ [s]) (onT (r1, r2, r3) s (bt ds ((p + 1 : Nat) : Int))) st) (fun s st => dfsT f ds d (p + 1 + 1) (pre ++ [s]) (onT (r1, r2, r3) s (bt ds ((p + 1 : Nat) : Int))) st) (sgsT.drop 0) st from hG)
    clear hG
    have HP := Aside0.mk hP
    have HPS := Aside0.mk hPs
    have HT := Aside0.mk htk
    have HL := Aside0.mk hpl
    have HD := Aside0.mk hpd
    have HNE := Aside0.mk hne
    have HM := Aside0.mk hm
    have HST := Aside0.mk hstab
    have HMO := Aside0.mk hmono
    have hlt : ((p : Int) + 1) < (ds.size : Int) := by omega
    have hnq : (((p : Int) + 1) == (ds.size : Int)) = false := beq_eq_false_iff_ne.2 (by omega)
    have hp0 : (0 : Int) ≤ (p : Int) := by omega
    have hp00 : (0 : Int) ≤ (p : Int) + 1 := by omega
    have hwr : IntKind.i64.wrap ((p : Int) + 1 + 1) = (p : Int) + 1 + 1 := by unfold IntKind.wrap; simp [IntKind.bits, IntKind.signed]; omega
    have hpm : (p : Int) < (m : Int) := by omega
    have hp1 : (p : Int) ≤ 1000 := by omega
    clear hE hR hI hP hPs htk hpl hpd hne hm hgo hstab hmono hds
    go_enter Tryd.func22, Tryd.ntmps22
    go_wp2_with (first | ((with_reducible refine gate_dst (N := 7) rfl ?_); refine box_event ?hg (N := 7) ?hd (cs := #[.int .i64 r1, .int .i64 r2, .int .i64 r3]) (t := 38) ?hr ?_; (case hd => rfl); (case hg => rfl); (case hr => first | (go_simp; done) | (go_simp; rfl)); intro gb hg w2 hbox hb; have HB2 := Aside0.mk hb; have HE2 := Aside0.mk (HE.out.keepP (belowP_of hb HP.out) HPS.out.1 HPS.out.2.1 HPS.out.2.2.2.1 HPS.out.2.2.2.2); have hcd := HE2.out.d; have HG := Aside0.mk hg; have HBX := Aside0.mk hbox; clear hb hg hbox) | ((with_reducible refine gate_dst (N := 20) rfl ?_); refine lit_event_ ?hg (N := 20) ?hd (cs := #[.int .u8 42, .int .u8 43, .int .u8 45, .int .u8 0]) (t := 5) (fun g => .slice (some ⟨g, 0, none⟩) 4 4) ?hr ?_; (case hd => rfl); (case hg => rfl); (case hr => first | (go_simp; done) | (go_simp; rfl)); intro gl hg w3 hbox hb; have HB3 := Aside0.mk hb; have HGL := Aside0.mk hg; have HBL := Aside0.mk hbox; clear hb hg hbox))
    have HB23 := Aside0.mk (below_then HB2.out HB2.out.size HB3.out)
    have HP3 := Aside0.mk (show ∀ k, (P k ∨ k = gb ∨ k = gl) → k < w3.heap.size from fun k hk => by
      rcases hk with h | h | h
      · exact Nat.lt_of_lt_of_le (HP.out k h) HB23.out.size
      · rw [h]; exact Nat.lt_of_lt_of_le (blk_lt HBX.out) HB3.out.size
      · rw [h]; exact blk_lt HBL.out)
    have HE3 := Aside0.mk (HE.out.keepP (belowP_of HB23.out HP.out) HPS.out.1 HPS.out.2.1 HPS.out.2.2.2.1 HPS.out.2.2.2.2)
    have HBX3 := Aside0.mk (blk_below HBX.out HB3.out)
    have HR3 := Aside0.mk (rowB_below HR.out HB23.out)
    have HI3 := Aside0.mk (HST.out (fun k => P k ∨ k = gb ∨ k = gl) st w w3 (HMO.out P _ st w (fun k hk => by
      rcases hk with h | h | h
      · exact .inl h
      · exact .inr (by rw [h, HG.out]; exact Nat.le_refl _)
      · exact .inr (by rw [h, HGL.out]; exact HB2.out.size)) HI.out) (fun k hk _ => HB23.out.block k hk) HB23.out.size)
    have HNB := Aside0.mk (show gb ≠ Br ∧ gl ≠ Br from ⟨fun e => by have := HP.out Br HPS.out.2.2.1; have := HG.out; omega, fun e => by have := HP.out Br HPS.out.2.2.1; have := HGL.out; have := HB2.out.size; omega⟩)
    clear HE2 HE hcd HR HI
    go_loopg [22] 4 (fun dd v22 w' => ∃ (j : Nat) (st' : σ) (row' : List Int), v22 = .int .i64 j ∧ Aside0 (j + dd = 4) ∧ Aside0 (roundsT (fun s st => dfsT f ds d (p + 1 + 1) (pre ++ [s]) (onT (r1, r2, r3) s (bt ds ((p + 1 : Nat) : Int))) st) (sgsT.drop j) st' = dfsT f ds (d + 1) (p + 1) pre (r1, r2, r3) st) ∧ Aside0 (roundsG (fun s st => dfsG G f ds d (p + 1 + 1) (pre ++ [s]) (onT (r1, r2, r3) s (bt ds ((p + 1 : Nat) : Int))) st) (fun s st => dfsT f ds d (p + 1 + 1) (pre ++ [s]) (onT (r1, r2, r3) s (bt ds ((p + 1 : Nat) : Int))) st) (sgsT.drop j) st') ∧ Aside0 (RowB w' Br m row' ∧ row'.take p = pre) ∧ Aside0 (I (fun k => P k ∨ k = gb ∨ k = gl) st' w') ∧ Aside0 (BelowP (fun k => (P k ∨ k = gb ∨ k = gl) ∧ k ≠ Br) w3 w'))
    case atStart => exact ⟨0, st, row, rfl, ⟨rfl⟩, ⟨rfl⟩, ⟨HGG.out⟩, ⟨HR3.out, HT.out⟩, HI3, ⟨BelowP.refl _ _⟩⟩
    case round =>
      obtain ⟨j, st', row', rfl, HJ, HQ, HGJ, HRW, HIW, HBW⟩ := hrel
      cases gk with
      | zero =>
        obtain rfl : j = 4 := HJ.out
        go_wp2
        go_ret
        refine ⟨by rw [← HQ.out]; rfl, by rw [← HQ.out]; exact HMO.out _ P st' _ (fun k hk => .inl (.inl hk)) HIW.out, (belowP_of HB23.out (fun k hk => HP.out k hk.1)).trans (HBW.out.mono (fun k hk => ⟨.inl hk.1, hk.2⟩)), row', HRW.out.1, HRW.out.2⟩
      | succ gk =>
        have hj4 : j < 4 := by have := HJ.out; omega
        have hj4i : (j : Int) < 4 := by omega
        have hj0 : (0 : Int) ≤ (j : Int) := by omega
        obtain ⟨s, hdr, hcj⟩ := sgs_at_ j hj4
        have HDR := Aside0.mk hdr
        have hcell : wr.cell? ⟨gl, j, none⟩ = some (.int .u8 s) := (blk_cell ((HBW.out.block gl ⟨.inr (.inr rfl), HNB.out.2⟩).trans HBL.out) j).trans hcj
        obtain ⟨o1, o2, o3, ho⟩ : ∃ o1 o2 o3, onT (r1, r2, r3) s (bt ds ((p : Int) + 1)) = (o1, o2, o3) := ⟨_, _, _, rfl⟩
        have HON := Aside0.mk (show impl_reckoner_on.f r1 r2 r3 s (bt ds ((p : Int) + 1)) = some (o1, o2, o3) by have := on_some_ (r1, r2, r3) s (bt ds ((p : Int) + 1)); rw [ho] at this; exact this)
        have hpn : p + 1 < ds.size := by have := HD.out; omega
        have hbt : ((ds[p + 1]'hpn).toNat : Int) = bt ds ((p : Int) + 1) := by
          unfold bt
          have h1 : ((p : Int) + 1).toNat = p + 1 := by omega
          rw [dif_pos (by rw [h1]; exact hpn)]
          simp only [h1]
        have HGS := Aside0.mk (show roundsG (fun s st => dfsG G f ds d (p + 1 + 1) (pre ++ [s]) (onT (r1, r2, r3) s (bt ds ((p + 1 : Nat) : Int))) st) (fun s st => dfsT f ds d (p + 1 + 1) (pre ++ [s]) (onT (r1, r2, r3) s (bt ds ((p + 1 : Nat) : Int))) st) (s :: sgsT.drop (j + 1)) st' from by rw [← hdr]; exact HGJ.out)
        have HG1 := Aside0.mk (show dfsG G f ds d (p + 1 + 1) (pre ++ [s]) (o1, o2, o3) st' from by
          have q : dfsG G f ds d (p + 1 + 1) (pre ++ [s]) (onT (r1, r2, r3) s (bt ds ((p + 1 : Nat) : Int))) st' := HGS.out.1
          rw [show ((p + 1 : Nat) : Int) = (p : Int) + 1 from rfl, ho] at q
          exact q)
        have HON2 := Aside0.mk (show impl_reckoner_on.f r1 r2 r3 s ((ds[p + 1]'hpn).toNat : Int) = some (o1, o2, o3) by rw [hbt]; exact HON.out)
        clear hbt
        obtain ⟨st2, b2, hres⟩ : ∃ st2 b2, dfsT f ds d (p + 1 + 1) (pre ++ [s]) (o1, o2, o3) st' = (st2, b2) := ⟨_, _, rfl⟩
        have HRES := Aside0.mk (show dfsT f ds d (p + 1 + 1) (pre ++ [s]) (onT (r1, r2, r3) s (bt ds ((p + 1 : Nat) : Int))) st' = (st2, b2) by rw [show ((p + 1 : Nat) : Int) = (p : Int) + 1 from rfl, ho]; exact hres)
        have HREC := Aside0.mk (show ∀ (x : Int) (W : World), x = ((p + 1 : Nat) : Int) + 1 → EnvC Bd Be Br Bs Bc m g caps ds W → RowB W Br m (row'.set p s) → I (fun k => P k ∨ k = gb ∨ k = gl) st' W → w3.heap.size ≤ W.heap.size → _ from fun x W hx h1 h2 h3 h4 => by
          have := IH.out (p + 1) x (fun k => P k ∨ k = gb ∨ k = gl) W (row'.set p s) (pre ++ [s]) o1 o2 o3 st' (by have := HD.out; omega) hx (by rw [List.length_append, HL.out]; rfl) (by rw [take_set_ row' p s (by have := HRW.out.1.2.1; omega), HRW.out.2]) (fun k hk => Nat.lt_of_lt_of_le (HP3.out k hk) h4) ⟨.inl HPS.out.1, .inl HPS.out.2.1, .inl HPS.out.2.2.1, .inl HPS.out.2.2.2.1, .inl HPS.out.2.2.2.2⟩ h1 h2 h3 HG1.out
          rw [hres] at this
          exact this)
        have HE5 := Aside0.mk ((HE3.out.keepP HBW.out ⟨.inl HPS.out.1, HNE.out.1⟩ ⟨.inl HPS.out.2.1, HNE.out.2.1⟩ ⟨.inl HPS.out.2.2.2.1, HNE.out.2.2.1⟩ ⟨.inl HPS.out.2.2.2.2, HNE.out.2.2.2⟩))
        have hcsr := HE5.out.s
        have HB5 := Aside0.mk (belowP_set (P := fun k => (P k ∨ k = gb ∨ k = gl) ∧ k ≠ Br) (BelowP.refl _ wr) (b := Br) (fun h => h.2 rfl) p (.int .u8 s))
        have HBW5 := Aside0.mk (HBW.out.trans HB5.out)
        have HE6 := Aside0.mk ((HE3.out.keepP HBW5.out ⟨.inl HPS.out.1, HNE.out.1⟩ ⟨.inl HPS.out.2.1, HNE.out.2.1⟩ ⟨.inl HPS.out.2.2.2.1, HNE.out.2.2.1⟩ ⟨.inl HPS.out.2.2.2.2, HNE.out.2.2.2⟩))
        have HBX5 := Aside0.mk ((HBW5.out.block gb ⟨.inr (.inl rfl), HNB.out.1⟩).trans HBX3.out)
        have hbr := HRW.out.1.2.2.1 p (by omega)
        have hfr := HRW.out.1.2.2.2 p (by omega)
        have HR5 := Aside0.mk (rowB_set HRW.out.1 p (by omega) s)
        have HI5 := Aside0.mk (HST.out _ st' wr (wr.setCell ⟨Br, p, none⟩ (.int .u8 s)) HIW.out (fun k _ hk => Below.heap_setCell wr _ _ k (show k ≠ Br from hk)) (by simp [World.setCell]))
        have hcd5 := HE6.out.d
        have hcc5 := HE6.out.c
        have hg0 := (blk_cell HBX5.out 0).trans (show _ = some (Value.int .i64 r1) from rfl)
        have hg1 := (blk_cell HBX5.out 1).trans (show _ = some (Value.int .i64 r2) from rfl)
        have hg2 := (blk_cell HBX5.out 2).trans (show _ = some (Value.int .i64 r3) from rfl)
        clear hres ho hdr hcj
        have HP5 := Aside0.mk (show ∀ k, (P k ∨ k = gb ∨ k = gl) → k < (wr.setCell ⟨Br, p, none⟩ (.int .u8 s)).heap.size from fun k hk => Nat.lt_of_lt_of_le (HP3.out k hk) HBW5.out.size)
        cases b2 with
        | false =>
          go_wp2
          go_region_held3 (fun w' => w'.cell? ⟨Bc, 0, none⟩ = some (.func (.func 22) #[] #[.pointer (some ⟨Bd, 0, none⟩), .pointer (some ⟨Be, 0, none⟩), .pointer (some ⟨Bs, 0, none⟩), .pointer (some ⟨Bc, 0, none⟩)]) ∧ w'.cell? ⟨Bd, 0, none⟩ = some (.string ds) ∧ w'.cell? ⟨gb, 0, none⟩ = some (.int .i64 r1) ∧ w'.cell? ⟨gb, 1, none⟩ = some (.int .i64 r2) ∧ w'.cell? ⟨gb, 2, none⟩ = some (.int .i64 r3))
            (first | exact ⟨hcc5, hcd5, hg0, hg1, hg2⟩ | exact hS6 | exact hS7)
            (first | (go_at_call 24; refine (impl_reckoner_on.calls r1 r2 r3 s _ o1 o2 o3 _ HON2.out).mono ?_; rintro e w6 ⟨rfl, hb6⟩; have hb6' : Below (wr.setCell ⟨Br, p, none⟩ (.int .u8 s)).heap.size (wr.setCell ⟨Br, p, none⟩ (.int .u8 s)) w6 := ⟨hb6.os, hb6.tape, hb6.output, hb6.size, hb6.block⟩; clear hb6; have hS6 := And.intro (below_cell_ hb6' hcc5) (And.intro (below_cell_ hb6' hcd5) (And.intro (below_cell_ hb6' hg0) (And.intro (below_cell_ hb6' hg1) (below_cell_ hb6' hg2)))); have HB6 := Aside0.mk hb6'; clear hb6') | (go_at_call 22; refine (HREC.out ((p : Int) + 1 + 1) w6 rfl (HE6.out.keepP (belowP_of HB6.out HP5.out) (.inl HPS.out.1) (.inl HPS.out.2.1) (.inl HPS.out.2.2.2.1) (.inl HPS.out.2.2.2.2)) (rowB_below HR5.out HB6.out) (HST.out _ st' _ w6 HI5.out (fun k hk _ => HB6.out.block k hk) HB6.out.size) (Nat.le_trans HBW5.out.size HB6.out.size)).mono ?_; rintro e w7 ⟨rfl, hi7, hb7, row7, hr7, ht7⟩; have hS7 := And.intro (belowP_cell_ hb7 ⟨.inl HPS.out.2.2.2.2, HNE.out.2.2.2⟩ hS6.1) (And.intro (belowP_cell_ hb7 ⟨.inl HPS.out.1, HNE.out.1⟩ hS6.2.1) (And.intro (belowP_cell_ hb7 ⟨.inr (.inl rfl), HNB.out.1⟩ hS6.2.2.1) (And.intro (belowP_cell_ hb7 ⟨.inr (.inl rfl), HNB.out.1⟩ hS6.2.2.2.1) (belowP_cell_ hb7 ⟨.inr (.inl rfl), HNB.out.1⟩ hS6.2.2.2.2)))); have HI7 := Aside0.mk hi7; have HB7 := Aside0.mk hb7; have HR7 := Aside0.mk hr7; have HT7 := Aside0.mk ht7; clear hi7 hb7 hr7 ht7))
          have HW7 := Aside0.mk ((HBW5.out.trans (belowP_of HB6.out (fun k hk => HP5.out k hk.1))).trans HB7.out)
          have HTK := Aside0.mk (show row7.take p = pre from take_less_ HT7.out HL.out)
          have HF := Aside0.mk (HQ.out.symm.trans ((congrArg (fun l => roundsT _ l st') HDR.out).trans (roundsT_no_ HRES.out)))
          go_wp2
          go_ret
          refine ⟨by rw [HF.out]; rfl, by rw [HF.out]; exact HMO.out _ P st2 _ (fun k hk => .inl (.inl hk)) HI7.out, (belowP_of HB23.out (fun k hk => HP.out k hk.1)).trans (HW7.out.mono (fun k hk => ⟨.inl hk.1, hk.2⟩)), row7, HR7.out, HTK.out⟩
        | true =>
          go_wp2
          go_region_held3 (fun w' => w'.cell? ⟨Bc, 0, none⟩ = some (.func (.func 22) #[] #[.pointer (some ⟨Bd, 0, none⟩), .pointer (some ⟨Be, 0, none⟩), .pointer (some ⟨Bs, 0, none⟩), .pointer (some ⟨Bc, 0, none⟩)]) ∧ w'.cell? ⟨Bd, 0, none⟩ = some (.string ds) ∧ w'.cell? ⟨gb, 0, none⟩ = some (.int .i64 r1) ∧ w'.cell? ⟨gb, 1, none⟩ = some (.int .i64 r2) ∧ w'.cell? ⟨gb, 2, none⟩ = some (.int .i64 r3))
            (first | exact ⟨hcc5, hcd5, hg0, hg1, hg2⟩ | exact hS6 | exact hS7)
            (first | (go_at_call 24; refine (impl_reckoner_on.calls r1 r2 r3 s _ o1 o2 o3 _ HON2.out).mono ?_; rintro e w6 ⟨rfl, hb6⟩; have hb6' : Below (wr.setCell ⟨Br, p, none⟩ (.int .u8 s)).heap.size (wr.setCell ⟨Br, p, none⟩ (.int .u8 s)) w6 := ⟨hb6.os, hb6.tape, hb6.output, hb6.size, hb6.block⟩; clear hb6; have hS6 := And.intro (below_cell_ hb6' hcc5) (And.intro (below_cell_ hb6' hcd5) (And.intro (below_cell_ hb6' hg0) (And.intro (below_cell_ hb6' hg1) (below_cell_ hb6' hg2)))); have HB6 := Aside0.mk hb6'; clear hb6') | (go_at_call 22; refine (HREC.out ((p : Int) + 1 + 1) w6 rfl (HE6.out.keepP (belowP_of HB6.out HP5.out) (.inl HPS.out.1) (.inl HPS.out.2.1) (.inl HPS.out.2.2.2.1) (.inl HPS.out.2.2.2.2)) (rowB_below HR5.out HB6.out) (HST.out _ st' _ w6 HI5.out (fun k hk _ => HB6.out.block k hk) HB6.out.size) (Nat.le_trans HBW5.out.size HB6.out.size)).mono ?_; rintro e w7 ⟨rfl, hi7, hb7, row7, hr7, ht7⟩; have hS7 := And.intro (belowP_cell_ hb7 ⟨.inl HPS.out.2.2.2.2, HNE.out.2.2.2⟩ hS6.1) (And.intro (belowP_cell_ hb7 ⟨.inl HPS.out.1, HNE.out.1⟩ hS6.2.1) (And.intro (belowP_cell_ hb7 ⟨.inr (.inl rfl), HNB.out.1⟩ hS6.2.2.1) (And.intro (belowP_cell_ hb7 ⟨.inr (.inl rfl), HNB.out.1⟩ hS6.2.2.2.1) (belowP_cell_ hb7 ⟨.inr (.inl rfl), HNB.out.1⟩ hS6.2.2.2.2)))); have HI7 := Aside0.mk hi7; have HB7 := Aside0.mk hb7; have HR7 := Aside0.mk hr7; have HT7 := Aside0.mk ht7; clear hi7 hb7 hr7 ht7))
          have HW7 := Aside0.mk ((HBW5.out.trans (belowP_of HB6.out (fun k hk => HP5.out k hk.1))).trans HB7.out)
          have HTK := Aside0.mk (show row7.take p = pre from take_less_ HT7.out HL.out)
          have HG2 := Aside0.mk (show roundsG (fun s st => dfsG G f ds d (p + 1 + 1) (pre ++ [s]) (onT (r1, r2, r3) s (bt ds ((p + 1 : Nat) : Int))) st) (fun s st => dfsT f ds d (p + 1 + 1) (pre ++ [s]) (onT (r1, r2, r3) s (bt ds ((p + 1 : Nat) : Int))) st) (sgsT.drop (j + 1)) st2 from by
            have q : (dfsT f ds d (p + 1 + 1) (pre ++ [s]) (onT (r1, r2, r3) s (bt ds ((p + 1 : Nat) : Int))) st').2 = true → roundsG (fun s st => dfsG G f ds d (p + 1 + 1) (pre ++ [s]) (onT (r1, r2, r3) s (bt ds ((p + 1 : Nat) : Int))) st) (fun s st => dfsT f ds d (p + 1 + 1) (pre ++ [s]) (onT (r1, r2, r3) s (bt ds ((p + 1 : Nat) : Int))) st) (sgsT.drop (j + 1)) (dfsT f ds d (p + 1 + 1) (pre ++ [s]) (onT (r1, r2, r3) s (bt ds ((p + 1 : Nat) : Int))) st').1 := HGS.out.2
            rw [HRES.out] at q
            exact q rfl)
          have HF := Aside0.mk (((congrArg (fun l => roundsT _ l st') HDR.out).trans (roundsT_yes_ HRES.out)).symm.trans HQ.out)
          go_wp2
          go_roundg gk
          case measure => omega
          case rel => exact ⟨j + 1, st2, row7, by go_num, ⟨by have := HJ.out; omega⟩, HF, HG2, ⟨HR7.out, HTK.out⟩, HI7, HW7⟩
set_option maxHeartbeats 8000000 in
set_option maxRecDepth 100000 in
theorem signings_calls3 {σ : Type} (ds : ByteArray) (hd1 : 1 ≤ ds.size) (hds : ds.size ≤ 1000) (g : Nat) (caps : Array Value) (I : Nat → (Nat → Prop) → σ → World → Prop) (f : σ → List Int → Int → σ × Bool) (G : σ → Int → Prop)
    (eg : ∀ args w, (callFunc g args).run Tryd.prog w = .ok (.enter g args) w) (w : World) (P : Nat → Prop) (st : σ)
    (hgo : ∀ Br, w.heap.size ≤ Br → ∀ (P : Nat → Prop) (w : World) (sg : List Int) (st : σ) (v : Int), (∀ k, P k → k < w.heap.size) → P Br → RowB w Br (ds.size - 1) sg → I Br P st w → G st v → Calls Tryd.prog g (#[.slice (some ⟨Br, 0, none⟩) (ds.size - 1) (ds.size - 1), .int .i64 v] ++ caps) w fun e w' => e = .returned (.bool (f st sg v).2) ∧ I Br P (f st sg v).1 w' ∧ BelowP P w w')
    (hmono : ∀ Br (P Q : Nat → Prop) (st : σ) (w : World), (∀ k, Q k → P k ∨ w.heap.size ≤ k) → I Br P st w → I Br Q st w)
    (hstab : ∀ Br (P : Nat → Prop) (st : σ) (w w' : World), I Br P st w → (∀ k, k < w.heap.size → k ≠ Br → w'.heap[k]? = w.heap[k]?) → w.heap.size ≤ w'.heap.size → I Br P st w')
    (hP : ∀ k, P k → k < w.heap.size) (hI : ∀ Br, w.heap.size ≤ Br → I Br P st w) (hG : dfsG G f ds (ds.size - 1) 1 [] (0, 1, (bt ds 0 - 48) % 256) st) :
    Calls Tryd.prog 18 #[.string ds, .func (.func g) #[] caps] w fun e w' =>
      e = .returned (.bool (dfsT f ds (ds.size - 1) 1 [] (0, 1, (bt ds 0 - 48) % 256) st).2) ∧ (∃ Br, w.heap.size ≤ Br ∧ I Br P (dfsT f ds (ds.size - 1) 1 [] (0, 1, (bt ds 0 - 48) % 256) st).1 w') ∧ BelowP P w w' := by
  obtain ⟨m, hm⟩ : ∃ m, m + 1 = ds.size := ⟨ds.size - 1, by omega⟩
  have hm2 : ds.size - 1 = m := by omega
  rw [hm2] at hgo hG ⊢
  have h00 : 0 < ds.size := hd1
  have hbt : ((ds[0]'h00).toNat : Int) = bt ds 0 := by
    unfold bt
    rw [dif_pos (show (0 : Int).toNat < ds.size from h00)]
    rfl
  rw [← hbt] at hG ⊢
  clear hbt
  have hu := Tryd.underlying38
  have HI := Aside0.mk hI
  have HGG := Aside0.mk hG
  clear hG
  have HP := Aside0.mk hP
  have HM := Aside0.mk hm
  have HST := Aside0.mk hstab
  have HMO := Aside0.mk hmono
  have HGO := Aside0.mk hgo
  have HDS := Aside0.mk hds
  have hm1 : m ≤ 1000 := by omega
  have hsz : ((ds.size : Int)) - 1 = (m : Int) := by omega
  have h0 : (0 : Int) < (ds.size : Int) := by omega
  have hmf : ∀ (fn : Fn) (first cap : Array Value) (w : World), (Instr.makeFunc fn first cap).run Tryd.prog w = .ok (.func fn first cap) w := fun _ _ _ _ => rfl
  clear hI hP hm hstab hmono hgo hds hd1 hm2
  go_enter Tryd.func18, Tryd.ntmps18
  go_wp2_with (first | ((with_reducible refine gate_dst (N := 2) rfl ?_); refine box_event ?hg (N := 2) ?hd (cs := #[.string ds]) (t := 9) ?hr ?_; (case hd => rfl); (case hg => rfl); (case hr => first | (go_simp; done) | (go_simp; rfl)); intro Bd hg1 w1 hx1 hb1; have HG1 := Aside0.mk hg1; have HX1 := Aside0.mk hx1; have HB1 := Aside0.mk hb1; clear hg1 hx1 hb1) | ((with_reducible refine gate_dst (N := 3) rfl ?_); refine box_event ?hg (N := 3) ?hd (cs := #[.func (.func g) #[] caps]) (t := 34) ?hr ?_; (case hd => rfl); (case hg => rfl); (case hr => first | (go_simp; done) | (go_simp; rfl)); intro Be hg2 w2 hx2 hb2; have hcd : w2.cell? ⟨Bd, 0, none⟩ = some (.string ds) := (blk_cell (blk_below HX1.out hb2) 0).trans rfl; have HG2 := Aside0.mk hg2; have HX2 := Aside0.mk hx2; have HB2 := Aside0.mk hb2; clear hg2 hx2 hb2) | ((with_reducible refine gate_dst (N := 10) rfl ?_); refine make_event_ 5 ?hg (N := 10) ?hd 33 _ _ rfl m ?hx ?hy Tryd.underlying33 info5 hm1 ?_; (case hd => rfl); (case hg => rfl); (case hx => first | rfl | (go_simp; done) | (go_simp; rfl)); (case hy => first | rfl | (go_simp; done) | (go_simp; rfl)); intro Br hg3 w3 hx3 hb3; have HG3 := Aside0.mk hg3; have HX3 := Aside0.mk hx3; have HB3 := Aside0.mk hb3; clear hg3 hx3 hb3) | ((with_reducible refine gate_dst (N := 5) rfl ?_); refine box_event ?hg (N := 5) ?hd (cs := #[.slice none 0 0]) (t := 33) ?hr ?_; (case hd => rfl); (case hg => rfl); (case hr => first | (go_simp; done) | (go_simp; rfl)); intro Bs hg4 w4 hx4 hb4; have hcs0 : w4.cell? ⟨Bs, 0, none⟩ = some (.slice none 0 0) := (blk_cell hx4 0).trans rfl; have hfs0 := blk_frozen hx4 0; have HG4 := Aside0.mk hg4; have HX4 := Aside0.mk hx4; have HB4 := Aside0.mk hb4; clear hg4 hx4 hb4) | ((with_reducible refine gate_dst (N := 6) rfl ?_); refine box_event ?hg (N := 6) ?hd (cs := #[.nilFunc]) (t := 36) ?hr ?_; (case hd => rfl); (case hg => rfl); (case hr => first | (go_simp; done) | (go_simp; rfl)); intro Bc hg5 w5 hx5 hb5; have hcc0 : w5.cell? ⟨Bc, 0, none⟩ = some .nilFunc := (blk_cell hx5 0).trans rfl; have hfc0 := blk_frozen hx5 0; have HG5 := Aside0.mk hg5; have HX5 := Aside0.mk hx5; have HB5 := Aside0.mk hb5; clear hg5 hx5 hb5))
  have HXs := Aside0.mk (blk_put (cs' := #[.slice (some ⟨Br, 0, none⟩) m m]) HX4.out 0 (.slice (some ⟨Br, 0, none⟩) m m) rfl)
  have HXc := Aside0.mk (blk_put (cs' := #[.func (.func 22) #[] #[.pointer (some ⟨Bd, 0, none⟩), .pointer (some ⟨Be, 0, none⟩), .pointer (some ⟨Bs, 0, none⟩), .pointer (some ⟨Bc, 0, none⟩)]]) HX5.out 0 (.func (.func 22) #[] #[.pointer (some ⟨Bd, 0, none⟩), .pointer (some ⟨Be, 0, none⟩), .pointer (some ⟨Bs, 0, none⟩), .pointer (some ⟨Bc, 0, none⟩)]) rfl)
  have HN := Aside0.mk (show Bd = w.heap.size ∧ w.heap.size < w1.heap.size ∧ Be = w1.heap.size ∧ w1.heap.size < w2.heap.size ∧ Br = w2.heap.size ∧ w2.heap.size < w3.heap.size ∧ Bs = w3.heap.size ∧ w3.heap.size < w4.heap.size ∧ Bc = w4.heap.size ∧ w4.heap.size < w5.heap.size by
    have e5 : Bc = w4.heap.size := by rw [HG5.out]; simp [World.setCell]
    have l1 := blk_lt HX1.out
    have l2 := blk_lt HX2.out
    have l3 := HX3.out.1
    have l4 := blk_lt HX4.out
    have l5 := blk_lt HX5.out
    have := HG1.out; have := HG2.out; have := HG3.out; have := HG4.out
    omega)
  have HK := Aside0.mk (show ∀ k, k < w4.heap.size → k ≠ Bs → ∀ v, (w5.setCell ⟨Bc, 0, none⟩ v).heap[k]? = w4.heap[k]? from fun k hk hs v => by
    rw [Below.heap_setCell _ _ _ _ (show k ≠ Bc by have := HN.out; omega), HB5.out.block k (by simpa [World.setCell] using hk), Below.heap_setCell _ _ _ _ (show k ≠ Bs from hs)])
  have HB04 := Aside0.mk (below_then (below_then (below_then HB1.out HB1.out.size HB2.out) (Nat.le_trans HB1.out.size HB2.out.size) HB3.out) (Nat.le_trans HB1.out.size (Nat.le_trans HB2.out.size HB3.out.size)) HB4.out)
  have HB4s := Aside0.mk (show Below w.heap.size w (w4.setCell ⟨Bs, 0, none⟩ (.slice (some ⟨Br, 0, none⟩) m m)) from HB04.out.setCell (show w.heap.size ≤ Bs by have := HN.out; omega) _)
  have HBW := Aside0.mk (show Below w.heap.size w (w5.setCell ⟨Bc, 0, none⟩ (.func (.func 22) #[] #[.pointer (some ⟨Bd, 0, none⟩), .pointer (some ⟨Be, 0, none⟩), .pointer (some ⟨Bs, 0, none⟩), .pointer (some ⟨Bc, 0, none⟩)])) from (below_then HB4s.out HB4s.out.size HB5.out).setCell (show w.heap.size ≤ Bc by have := HN.out; omega) _)
  have hcd6 := (blk_cell ((HK.out Bd (by have := HN.out; omega) (by have := HN.out; omega) (.func (.func 22) #[] #[.pointer (some ⟨Bd, 0, none⟩), .pointer (some ⟨Be, 0, none⟩), .pointer (some ⟨Bs, 0, none⟩), .pointer (some ⟨Bc, 0, none⟩)])).trans (blk_below (blk_below (blk_below HX1.out HB2.out) HB3.out) HB4.out)) 0).trans (show _ = some (Value.string ds) from rfl)
  have hce6 := (blk_cell ((HK.out Be (by have := HN.out; omega) (by have := HN.out; omega) (.func (.func 22) #[] #[.pointer (some ⟨Bd, 0, none⟩), .pointer (some ⟨Be, 0, none⟩), .pointer (some ⟨Bs, 0, none⟩), .pointer (some ⟨Bc, 0, none⟩)])).trans (blk_below (blk_below HX2.out HB3.out) HB4.out)) 0).trans (show _ = some (Value.func (.func g) #[] caps) from rfl)
  have hcs6 := (blk_cell ((Below.heap_setCell w5 ⟨Bc, 0, none⟩ (.func (.func 22) #[] #[.pointer (some ⟨Bd, 0, none⟩), .pointer (some ⟨Be, 0, none⟩), .pointer (some ⟨Bs, 0, none⟩), .pointer (some ⟨Bc, 0, none⟩)]) Bs (show Bs ≠ Bc by have := HN.out; omega)).trans (blk_below HXs.out HB5.out)) 0).trans (show _ = some (Value.slice (some ⟨Br, 0, none⟩) m m) from rfl)
  have hcc6 := (blk_cell HXc.out 0).trans (show _ = some (Value.func (.func 22) #[] #[.pointer (some ⟨Bd, 0, none⟩), .pointer (some ⟨Be, 0, none⟩), .pointer (some ⟨Bs, 0, none⟩), .pointer (some ⟨Bc, 0, none⟩)]) from rfl)
  have HE6 := Aside0.mk (show EnvC Bd Be Br Bs Bc m g caps ds _ from ⟨hcd6, hce6, hcs6, hcc6⟩)
  have HR6 := Aside0.mk (rowB_block (rowB_below HX3.out HB4.out) (HK.out Br (by have := HN.out; omega) (by have := HN.out; omega) (.func (.func 22) #[] #[.pointer (some ⟨Bd, 0, none⟩), .pointer (some ⟨Be, 0, none⟩), .pointer (some ⟨Bs, 0, none⟩), .pointer (some ⟨Bc, 0, none⟩)])))
  have HBr := Aside0.mk (show w.heap.size ≤ Br by have := HN.out; omega)
  have HI6 := Aside0.mk (HMO.out Br P (fun k => P k ∨ k = Bd ∨ k = Be ∨ k = Br ∨ k = Bs ∨ k = Bc) st w (fun k hk => hk.imp id (fun e => by have := HN.out; omega)) (HI.out Br HBr.out))
  have HP6 := Aside0.mk (show ∀ k, (P k ∨ k = Bd ∨ k = Be ∨ k = Br ∨ k = Bs ∨ k = Bc) → k < w5.heap.size from fun k hk => by
    rcases hk with h | h
    · have := HP.out k h; have := HN.out; omega
    · have := HN.out; omega)
  have HSZ := Aside0.mk (show ∀ v, (w5.setCell ⟨Bc, 0, none⟩ v).heap.size = w5.heap.size from fun v => by simp [World.setCell])
  clear hcs6 hce6
  go_region_held3 (fun w' => w'.cell? ⟨Bc, 0, none⟩ = some (.func (.func 22) #[] #[.pointer (some ⟨Bd, 0, none⟩), .pointer (some ⟨Be, 0, none⟩), .pointer (some ⟨Bs, 0, none⟩), .pointer (some ⟨Bc, 0, none⟩)]) ∧ w'.cell? ⟨Bd, 0, none⟩ = some (.string ds))
    (first | exact ⟨hcc6, hcd6⟩ | exact hS7 | exact hS8)
    (first | (go_at_call 25; refine (impl_begin.calls _ _ _ _ _ rfl).mono ?_; rintro e w7 ⟨rfl, hb7⟩; have hb7' : Below (w5.setCell ⟨Bc, 0, none⟩ (.func (.func 22) #[] #[.pointer (some ⟨Bd, 0, none⟩), .pointer (some ⟨Be, 0, none⟩), .pointer (some ⟨Bs, 0, none⟩), .pointer (some ⟨Bc, 0, none⟩)])).heap.size (w5.setCell ⟨Bc, 0, none⟩ (.func (.func 22) #[] #[.pointer (some ⟨Bd, 0, none⟩), .pointer (some ⟨Be, 0, none⟩), .pointer (some ⟨Bs, 0, none⟩), .pointer (some ⟨Bc, 0, none⟩)])) w7 := ⟨hb7.os, hb7.tape, hb7.output, hb7.size, hb7.block⟩; clear hb7; have hS7 := And.intro (below_cell_ hb7' hcc6) (below_cell_ hb7' hcd6); have HB7 := Aside0.mk hb7'; clear hb7') | (go_at_call 22; refine (choose_calls3 ds HDS.out Bd Be Br Bs Bc m g caps (I Br) f G HM.out (by have := HN.out; omega) eg (HGO.out Br HBr.out) (HMO.out Br) (HST.out Br) m 0 1 (fun k => P k ∨ k = Bd ∨ k = Be ∨ k = Br ∨ k = Bs ∨ k = Bc) w7 (List.replicate m 0) [] _ _ _ st (by have := HM.out; omega) rfl rfl rfl (fun k hk => Nat.lt_of_lt_of_le (HP6.out k hk) (by have := HB7.out.size; rw [HSZ.out] at this; exact this)) ⟨.inr (.inl rfl), .inr (.inr (.inl rfl)), .inr (.inr (.inr (.inl rfl))), .inr (.inr (.inr (.inr (.inl rfl)))), .inr (.inr (.inr (.inr (.inr rfl))))⟩ (HE6.out.keepP (belowP_of (P := fun k => k < w5.heap.size) HB7.out (fun k hk => by rw [HSZ.out]; exact hk)) (HP6.out _ (.inr (.inl rfl))) (HP6.out _ (.inr (.inr (.inl rfl)))) (HP6.out _ (.inr (.inr (.inr (.inr (.inl rfl)))))) (HP6.out _ (.inr (.inr (.inr (.inr (.inr rfl))))))) (rowB_below HR6.out HB7.out) (HST.out Br _ st w w7 HI6.out (fun k hk _ => (below_then HBW.out HBW.out.size HB7.out).block k hk) (below_then HBW.out HBW.out.size HB7.out).size) HGG.out).mono ?_; rintro e w8 ⟨rfl, hi8, hb8, row8, hr8, ht8⟩; have hS8 := And.intro (belowP_cell_ hb8 ⟨.inr (.inr (.inr (.inr (.inr rfl)))), by have := HN.out; show Bc ≠ Br; omega⟩ hS7.1) (belowP_cell_ hb8 ⟨.inr (.inl rfl), by have := HN.out; show Bd ≠ Br; omega⟩ hS7.2); have HI8 := Aside0.mk hi8; have HB8 := Aside0.mk hb8; clear hi8 hb8 hr8 ht8))
  go_wp2
  go_ret
  exact ⟨rfl, ⟨Br, HBr.out, HMO.out Br _ P _ w8 (fun k hk => .inl (.inl hk)) HI8.out⟩, (belowP_of (below_then HBW.out HBW.out.size HB7.out) HP.out).trans (HB8.out.mono (fun k hk => ⟨.inl hk, by have := HP.out k hk; have := HBr.out; show k ≠ Br; omega⟩))⟩

-- included rowC
theorem wrapid_ {x : Int} (h0 : -9223372036854775808 ≤ x) (h1 : x < 9223372036854775808) : wrap64 x = x := by
  unfold wrap64
  omega
theorem rowB_C {w : World} {B n : Nat} {xs : List Int} (h : RowB w B n xs) (hn : n ≤ 1000) : Kd.C (Kd.int .u8) w (some ⟨B, 0, none⟩) n xs :=
  Kd.C_of_reads (d := (0 : Int)) ⟨h.2.1, by omega, fun _ => ⟨_, rfl, fun j hj => by rw [Addr.add_lit, Nat.zero_add]; exact h.2.2.1 j hj⟩⟩

-- included ticketfor
structure TkI (Bn : Nat) (number : Int) (Br : Nat) (P : Nat → Prop) (st : Unit) (w : World) : Prop where
  n : Bn ≠ Br ∧ Bn < w.heap.size ∧ w.heap[Bn]? = some (.cells #[.int .i64 number] 3 (0, 0))
theorem tkI_mono {Bn : Nat} {number : Int} : ∀ Br (P Q : Nat → Prop) (st : Unit) (w : World), (∀ k, Q k → P k ∨ w.heap.size ≤ k) → TkI Bn number Br P st w → TkI Bn number Br Q st w := fun _ _ _ _ _ _ h => ⟨h.n⟩
theorem tkI_stab {Bn : Nat} {number : Int} : ∀ Br (P : Nat → Prop) (st : Unit) (w w' : World), TkI Bn number Br P st w → (∀ k, k < w.heap.size → k ≠ Br → w'.heap[k]? = w.heap[k]?) → w.heap.size ≤ w'.heap.size → TkI Bn number Br P st w' :=
  fun _ _ _ _ _ h hk hs => ⟨h.n.1, Nat.lt_of_lt_of_le h.n.2.1 hs, (hk Bn h.n.2.1 h.n.1).trans h.n.2.2⟩
def tkF (number : Int) : Unit → List Int → Int → Unit × Bool := fun _ _ v => ((), v != number)
set_option maxHeartbeats 4000000 in
set_option maxRecDepth 100000 in
theorem tkF_calls (Bn n : Nat) (number : Int) (Br : Nat) (P : Nat → Prop) (w : World) (sg : List Int) (st : Unit) (v : Int) (hI : TkI Bn number Br P st w) :
    Calls Tryd.prog 19 (#[.slice (some ⟨Br, 0, none⟩) n n, .int .i64 v] ++ #[.pointer (some ⟨Bn, 0, none⟩)]) w fun e w' => e = .returned (.bool (tkF number st sg v).2) ∧ TkI Bn number Br P (tkF number st sg v).1 w' ∧ BelowP P w w' := by
  have c1 : w.cell? ⟨Bn, 0, none⟩ = some (.int .i64 number) := (blk_cell hI.n.2.2 0).trans rfl
  have HI := Aside0.mk hI
  clear hI
  go_enter Tryd.func19, Tryd.ntmps19
  go_wp2
  go_ret
  exact ⟨rfl, ⟨HI.out.n⟩, BelowP.refl _ _⟩

-- included tkscan
def tkNo (number : Int) (ds : ByteArray) : Bool := (dfsT (tkF number) ds (ds.size - 1) 1 [] (0, 1, (bt ds 0 - 48) % 256) ()).2
def tkTx (d n : Nat) : ByteArray := padT (n : Int) (d - (Lib.itoa (n : Int)).length)
def tkScan (number : Int) (d : Nat) : Nat → Nat → ByteArray × Bool
  | 0, _ => ((⟨#[]⟩ : ByteArray), false)
  | j + 1, n => if tkNo number (tkTx d n) = true then tkScan number d j (n + 1) else (tkTx d n, true)
theorem tkG_ {number : Int} (ds : ByteArray) : ∀ (d i : Nat) (sg : List Int) (r : Int × Int × Int), dfsG (fun _ _ => True) (tkF number) ds d i sg r ()
  | 0, _, _, _ => by unfold dfsG; trivial
  | d + 1, i, sg, r => by
    unfold dfsG
    have h := fun (s : Int) => tkG_ (number := number) ds d (i + 1) (sg ++ [s]) (onT r s (bt ds i))
    have hr : ∀ l : List Int, roundsG (fun s (st : Unit) => dfsG (fun _ _ => True) (tkF number) ds d (i + 1) (sg ++ [s]) (onT r s (bt ds i)) st) (fun s st => dfsT (tkF number) ds d (i + 1) (sg ++ [s]) (onT r s (bt ds i)) st) l () := by
      intro l
      induction l with
      | nil => unfold roundsG; trivial
      | cons s l ih => unfold roundsG; exact ⟨h s, fun _ => ih⟩
    exact hr _
theorem padT_size (n : Int) (k : Nat) : (padT n k).size = k + (Lib.itoa n).length := by
  unfold padT itT
  rw [ByteArray.size_append]
  show (Lib.repeatL [48] k).toArray.size + (Lib.itoa n).toArray.size = _
  rw [List.size_toArray, List.size_toArray, Lib.repeatL_length]
  simp
theorem nd_small_ (u : Nat) (h : u < 10000) : 1 ≤ (Lib.itoa (u : Int)).length ∧ (Lib.itoa (u : Int)).length ≤ 4 := by
  unfold Lib.itoa
  rw [if_neg (by omega), Lib.decDigits_length, show ((u : Int)).toNat = u by omega]
  refine ⟨Lib.nDigits_pos u, ?_⟩
  by_cases c1 : u < 10
  · rw [Lib.nDigits_small c1]; omega
  · rw [Lib.nDigits_big c1]
    by_cases c2 : u / 10 < 10
    · rw [Lib.nDigits_small c2]; omega
    · rw [Lib.nDigits_big c2]
      by_cases c3 : u / 10 / 10 < 10
      · rw [Lib.nDigits_small c3]; omega
      · rw [Lib.nDigits_big c3, Lib.nDigits_small (show u / 10 / 10 / 10 < 10 by omega)]; exact Nat.le_refl _

theorem tk_signings (number : Int) (d n : Nat) (hd : 1 ≤ d ∧ d ≤ 4) (hn : n < 10000) (Bn : Nat) (w : World) (hb : w.heap[Bn]? = some (.cells #[.int .i64 number] 3 (0, 0))) (hlt : Bn < w.heap.size) :
    Calls Tryd.prog 18 #[.string (tkTx d n), .func (.func 19) #[] #[.pointer (some ⟨Bn, 0, none⟩)]] w fun e w' => e = .returned (.bool (tkNo number (tkTx d n))) ∧ Below w.heap.size w w' := by
  have hs := nd_small_ n hn
  have h1 : 1 ≤ (tkTx d n).size := by unfold tkTx; rw [padT_size]; omega
  have h2 : (tkTx d n).size ≤ 1000 := by unfold tkTx; rw [padT_size]; omega
  refine (signings_calls3 (tkTx d n) h1 h2 19 #[.pointer (some ⟨Bn, 0, none⟩)] (TkI Bn number) (tkF number) (fun _ _ => True) (enters_of Tryd.func19 (by kernel_rfl) rfl) w (fun k => k < w.heap.size) () (fun Br hBr P w sg st v _ _ _ hI _ => tkF_calls Bn ((tkTx d n).size - 1) number Br P w sg st v hI) tkI_mono tkI_stab (fun _ h => h) (fun Br hBr => ⟨by omega, hlt, hb⟩) (tkG_ _ _ _ _ _)).mono ?_
  rintro e w' ⟨rfl, _, hB⟩
  exact ⟨rfl, ⟨hB.os, hB.tape, hB.output, hB.size, fun k hk => hB.block k hk⟩⟩
def impl_FirstTicketFor.f (a0 a1 : Int) : Option (ByteArray × Bool) := (impl_within.f a0 1 4).bind fun b => if b = true then ((impl_within.f a1 (-100000000) 100000000).bind fun c => if c = true then (if 1 ≤ a0 ∧ a0 ≤ 4 then some (tkScan a1 a0.toNat (10 ^ a0.toNat) 0) else none) else some ((⟨#[]⟩ : ByteArray), false)) else some ((⟨#[]⟩ : ByteArray), false)
set_option maxHeartbeats 4000000 in
set_option maxRecDepth 100000 in
theorem impl_FirstTicketFor.calls (a0 a1 : Int) (r1 : ByteArray) (r2 : Bool) (w : World) (henv : EnvT w) (h : impl_FirstTicketFor.f a0 a1 = some (r1, r2)) :
    Calls Tryd.prog 8 #[.int .i64 a0, .int .i64 a1] w fun e w' => e = .returned (.tuple #[.string r1, .bool r2]) ∧ Below w.heap.size w w' := by
  obtain ⟨b, hg, h2⟩ := Option.bind_eq_some_iff.mp (show (impl_within.f a0 1 4).bind _ = some (r1, r2) from h)
  clear h
  have HE := Aside0.mk henv
  have HGL := Aside0.mk hg
  clear henv hg
  cases b with
  | false =>
    rw [if_neg (by simp)] at h2
    simp only [Option.some.injEq, Prod.mk.injEq] at h2
    obtain ⟨rfl, rfl⟩ := h2
    go_enter Tryd.func8, Tryd.ntmps8
    go_wp2_with (first | ((with_reducible refine gate_dst (N := 3) rfl ?_); refine box_event ?hg (N := 3) ?hd (cs := #[.int .i64 a1]) (t := 3) ?hr ?_; (case hd => rfl); (case hg => rfl); (case hr => first | (go_simp; done) | (go_simp; rfl)); intro Bn hg1 w1 hx1 hb1; have HX1 := Aside0.mk hx1; have HB1 := Aside0.mk hb1; clear hg1 hx1 hb1) | (go_at_call 17; (with_reducible refine (impl_within.calls a0 1 4 false _ HGL.out).mono ?_); rintro e w2 ⟨rfl, hd⟩; have HD := Aside0.mk (show Below w.heap.size w w2 from below_then HB1.out HB1.out.size (hd.below.mono (Nat.le_refl _))); clear hd))
    go_ret2
    exact ⟨rfl, HD.out⟩
  | true =>
    rw [if_pos rfl] at h2
    obtain ⟨c, hg2, h3⟩ := Option.bind_eq_some_iff.mp h2
    clear h2
    have HGN := Aside0.mk hg2
    clear hg2
    cases c with
    | false =>
      rw [if_neg (by simp)] at h3
      simp only [Option.some.injEq, Prod.mk.injEq] at h3
      obtain ⟨rfl, rfl⟩ := h3
      go_enter Tryd.func8, Tryd.ntmps8
      go_wp2_with (first | ((with_reducible refine gate_dst (N := 3) rfl ?_); refine box_event ?hg (N := 3) ?hd (cs := #[.int .i64 a1]) (t := 3) ?hr ?_; (case hd => rfl); (case hg => rfl); (case hr => first | (go_simp; done) | (go_simp; rfl)); intro Bn hg1 w1 hx1 hb1; have HX1 := Aside0.mk hx1; have HB1 := Aside0.mk hb1; clear hg1 hx1 hb1) | (go_at_call 17; (with_reducible refine (impl_within.calls a0 1 4 true _ HGL.out).mono ?_); rintro e w2 ⟨rfl, hd⟩; have hcell : w2.cell? ⟨Bn, 0, none⟩ = some (.int .i64 a1) := (blk_cell (blk_below HX1.out (hd.below.mono (Nat.le_refl _))) 0).trans rfl; have HD := Aside0.mk (show Below w.heap.size w w2 from below_then HB1.out HB1.out.size (hd.below.mono (Nat.le_refl _))); clear hd) | (go_at_call 17; (with_reducible refine (impl_within.calls a1 (-100000000) 100000000 false _ HGN.out).mono ?_); rintro e w3 ⟨rfl, hd⟩; have HD3 := Aside0.mk (show Below w.heap.size w w3 from below_then HD.out HD.out.size (hd.below.mono (Nat.le_refl _))); clear hd))
      go_ret2
      exact ⟨rfl, HD3.out⟩
    | true =>
      rw [if_pos rfl] at h3
      by_cases c4 : 1 ≤ a0 ∧ a0 ≤ 4
      case neg => rw [if_neg c4] at h3; cases h3
      rw [if_pos c4] at h3
      obtain ⟨D, rfl⟩ : ∃ D : Nat, a0 = (D : Int) := ⟨a0.toNat, by omega⟩
      rw [show ((D : Int)).toNat = D by omega, Option.some.injEq] at h3
      have HR := Aside0.mk h3
      have HD4 := Aside0.mk (show 1 ≤ D ∧ D ≤ 4 by omega)
      clear h3 c4
      go_enter Tryd.func8, Tryd.ntmps8
      go_wp2_with (first | ((with_reducible refine gate_dst (N := 3) rfl ?_); refine box_event ?hg (N := 3) ?hd (cs := #[.int .i64 a1]) (t := 3) ?hr ?_; (case hd => rfl); (case hg => rfl); (case hr => first | (go_simp; done) | (go_simp; rfl)); intro Bn hg1 w1 hx1 hb1; have HX1 := Aside0.mk hx1; have HB1 := Aside0.mk hb1; have HG1 := Aside0.mk hg1; clear hg1 hx1 hb1) | (go_at_call 17; (with_reducible refine (impl_within.calls (D : Int) 1 4 true _ HGL.out).mono ?_); rintro e w2 ⟨rfl, hd⟩; have hx2 := blk_below HX1.out (hd.below.mono (Nat.le_refl _)); have hcell : w2.cell? ⟨Bn, 0, none⟩ = some (.int .i64 a1) := (blk_cell hx2 0).trans rfl; have HX2 := Aside0.mk hx2; clear hx2; have HD := Aside0.mk (show Below w.heap.size w w2 from below_then HB1.out HB1.out.size (hd.below.mono (Nat.le_refl _))); clear hd) | (go_at_call 17; (with_reducible refine (impl_within.calls a1 (-100000000) 100000000 true _ HGN.out).mono ?_); rintro e w3 ⟨rfl, hd⟩; have HX3 := Aside0.mk (blk_below HX2.out (hd.below.mono (Nat.le_refl _))); have HD3 := Aside0.mk (show Below w.heap.size w w3 from below_then HD.out HD.out.size (hd.below.mono (Nat.le_refl _))); clear hd))
      go_loopg [6, 18] D (fun d v6 v18 w' => ∃ i : Nat, v6 = .int .i64 ((10 ^ i : Nat) : Int) ∧ v18 = .int .i64 (i : Int) ∧ Aside0 (i + d = D) ∧ w' = w3)
      case atStart => exact ⟨0, rfl, rfl, ⟨by omega⟩, rfl⟩
      case round =>
        obtain ⟨i, rfl, rfl, HI, rfl⟩ := hrel
        cases gk with
        | succ k1 =>
          have hc : i < D := by have := HI.out; omega
          go_wp2
          go_roundg k1
          case measure => omega
          case rel =>
            have h4 : i < 4 := by have := HI.out; have := HD4.out; omega
            refine ⟨i + 1, ?_, ?_, ⟨by have := HI.out; omega⟩, rfl⟩
            · obtain rfl | rfl | rfl | rfl : i = 0 ∨ i = 1 ∨ i = 2 ∨ i = 3 := by omega
              all_goals exact congrArg (Value.int .i64) (by first | decide | (simp [wrap64]; done))
            · exact congrArg (Value.int .i64) (by unfold wrap64; omega)
        | zero =>
          have hiD : i = D := by have := HI.out; omega
          subst hiD
          have hc : ¬ i < i := Nat.lt_irrefl i
          have HM := Aside0.mk (show 10 ^ i ≤ 10000 from Nat.le_trans (Nat.pow_le_pow_right (by decide) HD4.out.2) (by decide))
          have HX3' := HX3
          go_wp2
          go_loopg [24] (10 ^ i) (fun d v24 w' => ∃ n : Nat, v24 = .int .i64 (n : Int) ∧ Aside0 (n + d = 10 ^ i) ∧ Aside0 (tkScan a1 i d n = (r1, r2)) ∧ Aside0 (w'.heap[Bn]? = some (.cells #[.int .i64 a1] 3 (0, 0))) ∧ Aside0 (Below w.heap.size w w'))
          case atStart => exact ⟨0, rfl, ⟨by omega⟩, HR, HX3, HD3⟩
          case round =>
            clear hc
            obtain ⟨n, rfl, HN, HS, HX, HB⟩ := hrel
            cases gk with
            | zero =>
              have hz := HS.out
              simp only [tkScan, Prod.mk.injEq] at hz
              obtain ⟨rfl, rfl⟩ := hz
              have hc : ¬ n < 10 ^ i := by have := HN.out; omega
              have hc2 : ¬ (n : Int) < (10 : Int) ^ i := by have h6 : ((10 ^ i : Nat) : Int) = (10 : Int) ^ i := by simp
                                                            rw [← h6]; omega
              go_wp2
              go_ret2
              exact ⟨rfl, HB.out⟩
            | succ k1 =>
              have hc : n < 10 ^ i := by have := HN.out; omega
              have hc2 : (n : Int) < (10 : Int) ^ i := by have h6 : ((10 ^ i : Nat) : Int) = (10 : Int) ^ i := by simp
                                                          rw [← h6]; omega
              have HPD := Aside0.mk (fun (W : World) (he : EnvT W) => padded_calls (n : Int) (i : Int) (by omega) (by have := HN.out; have := HM.out; omega) (i - (Lib.itoa (n : Int)).length) (by have := HD4.out; omega) (by have h5 := nd_small_ n (by have := HN.out; have := HM.out; omega); have h6 := HD4.out; unfold wrap64; omega) (by have h5 := nd_small_ n (by have := HN.out; have := HM.out; omega); omega) W he)
              have HSG := Aside0.mk (fun (W : World) h1 h2 => tk_signings a1 i n HD4.out (by have := HN.out; have := HM.out; omega) Bn W h1 h2)
              have HZ := Aside0.mk HS.out
              clear HS
              cases hno : tkNo a1 (tkTx i n) with
              | true =>
                rw [hno] at HSG
                have HS2 := Aside0.mk (show tkScan a1 i k1 (n + 1) = (r1, r2) by have := HZ.out; rw [tkScan, if_pos hno] at this; exact this)
                clear hno HZ
                go_wp2_with (first | (go_at_call 13; refine (HPD.out _ (env_below HE.out HB.out)).mono ?_; rintro e w4 ⟨rfl, hb4⟩; have HX4 := Aside0.mk (blk_below HX.out hb4); have HB4 := Aside0.mk (below_then HB.out HB.out.size hb4); clear hb4) | (go_at_call 18; refine (HSG.out _ HX4.out (blk_lt HX4.out)).mono ?_; rintro e w5 ⟨rfl, hb5⟩; have HX5 := Aside0.mk (blk_below HX4.out hb5); have HB5 := Aside0.mk (below_then HB4.out HB4.out.size hb5); clear hb5))
                go_roundg k1
                case measure => omega
                case rel => exact ⟨n + 1, congrArg (Value.int .i64) (by have h5 := HN.out; have h6 := HM.out; unfold wrap64; omega), ⟨by have := HN.out; omega⟩, HS2, HX5, HB5⟩
              | false =>
                rw [hno] at HSG
                have hs3 : (tkTx i n, true) = (r1, r2) := by have := HZ.out; rw [tkScan, if_neg (by rw [hno]; simp)] at this; exact this
                simp only [Prod.mk.injEq] at hs3
                obtain ⟨rfl, rfl⟩ := hs3
                clear hno HZ
                go_wp2_with (first | (go_at_call 13; refine (HPD.out _ (env_below HE.out HB.out)).mono ?_; rintro e w4 ⟨rfl, hb4⟩; have HX4 := Aside0.mk (blk_below HX.out hb4); have HB4 := Aside0.mk (below_then HB.out HB.out.size hb4); clear hb4) | (go_at_call 18; refine (HSG.out _ HX4.out (blk_lt HX4.out)).mono ?_; rintro e w5 ⟨rfl, hb5⟩; have HB5 := Aside0.mk (below_then HB4.out HB4.out.size hb5); clear hb5))
                go_ret2
                exact ⟨rfl, HB5.out⟩

/-! ### laws_FnExactFirstTicketFor: function 4 -/
def laws_FnExactFirstTicketFor.f (k : Nat) (a0 : Int) (a1 : Int) : Option (Bool) := (spec_FirstTicketFor.f k a0 a1).bind fun bt141 => ((impl_FirstTicketFor.f a0 a1).bind fun bt143 => (if bt143.1.toList = bt141.1.toList then (if (bt143.2 != bt141.2) = true then (some false) else (some true)) else (some false)))
theorem laws_FnExactFirstTicketFor.mono : ∀ a0 a1 k, LeO (laws_FnExactFirstTicketFor.f k a0 a1) (laws_FnExactFirstTicketFor.f (k + 1) a0 a1) := by
  intro a0 a1 k
  unfold laws_FnExactFirstTicketFor.f
  repeat' first
      | (with_reducible exact spec_FirstTicketFor.mono _ _ _)
      | (with_reducible exact LeO.refl _)
      | (with_reducible exact LeO.none _)
      | (with_reducible refine LeO.ite ?_ ?_)
      | (with_reducible refine LeO.bind ?_ (fun _ => ?_))
      | exact spec_FirstTicketFor.mono _ _ _
      | exact LeO.none _
      | refine LeO.ite ?_ ?_
      | refine LeO.bind ?_ (fun _ => ?_)
set_option maxHeartbeats 8000000 in
set_option maxRecDepth 100000 in
theorem laws_FnExactFirstTicketFor.calls (k : Nat) (a0 : Int) (a1 : Int) (r : Bool) (w : World) (henv : EnvT w) (h : laws_FnExactFirstTicketFor.f k a0 a1 = some r) :
    Calls Tryd.prog 4 #[.int .i64 a0, .int .i64 a1] w fun e w' => e = .returned (.bool r) ∧ Below w.heap.size w w' := by
  have HENV := Aside0.mk henv
  clear henv
  have HB := Aside0.mk (Below.refl w.heap.size w)
  have H : ((spec_FirstTicketFor.f k a0 a1).bind fun bt141 => ((impl_FirstTicketFor.f a0 a1).bind fun bt143 => (if bt143.1.toList = bt141.1.toList then (if (bt143.2 != bt141.2) = true then (some false) else (some true)) else (some false)))) = some r := h
  clear h
  replace H := Option.bind_eq_some_iff.mp H
  obtain ⟨⟨t141, t142⟩, A30, H⟩ := H
  replace H : ((impl_FirstTicketFor.f a0 a1).bind fun bt143 => (if bt143.1.toList = t141.toList then (if (bt143.2 != t142) = true then (some false) else (some true)) else (some false))) = some r := H
  have A3 := Aside0.mk A30
  clear A30
  replace H := Option.bind_eq_some_iff.mp H
  obtain ⟨⟨t143, t144⟩, A40, H⟩ := H
  replace H : (if t143.toList = t141.toList then (if (t144 != t142) = true then (some false) else (some true)) else (some false)) = some r := H
  have A4 := Aside0.mk A40
  clear A40
  by_cases c5 : t143.toList = t141.toList
  · rw [if_pos c5] at H
    have c5b0 : (t143.toList == t141.toList) = true := beq_iff_eq.mpr c5
    have c5b1 : (t143.toList != t141.toList) = false := bne_eq_false_iff_eq.mpr c5
    clear c5
    by_cases c6 : (t144 != t142) = true
    · rw [if_pos c6] at H
      have c6b0 : (t144 != t142) = true := c6
      (try (have c6b1 : decide (t144 = t142) = false := by simpa using c6))
      (try (have c6b2 : (t144 == t142) = false := by simpa using c6))
      (try (have c6b3 : ¬ (t144 = t142) := by simpa using c6))
      clear c6
      obtain rfl := Option.some.inj H
      go_enter Tryd.func4, Tryd.ntmps4
      go_wp2_with (first | ((with_reducible refine gate_callee (f := 7) rfl ?_); refine goesL_ (some 12) rfl rfl Tryd.func7 (by kernel_rfl) rfl #[.int .i64 a0, .int .i64 a1] rfl (by (try simp only [List.map_toArray, List.map_cons, List.map_nil]); first | done | rfl | (simp only [List.length_drop, List.length_take]; rfl)) ?_; (with_reducible refine (spec_FirstTicketFor.calls k a0 a1 t141 t142 _ A3.out).mono ?_); rintro e w7 ⟨rfl, hb⟩; refine ⟨_, rfl, ?_⟩; have n0_ := Aside0.mk (below_step (by repeat (first | (with_reducible first | exact HB.out | apply below_alloc | apply pw_below_drewN | apply below_drew1) | exact HB.out)) hb); clear HB; have HB := n0_; clear n0_; (try clear hb); (try clear hb2); (try clear hk); (try clear hi)) | ((with_reducible refine gate_callee (f := 8) rfl ?_); refine goesL_ (some 18) rfl rfl Tryd.func8 (by kernel_rfl) rfl #[.int .i64 a0, .int .i64 a1] rfl (by (try simp only [List.map_toArray, List.map_cons, List.map_nil]); first | done | rfl | (simp only [List.length_drop, List.length_take]; rfl)) ?_; (with_reducible refine (impl_FirstTicketFor.calls a0 a1 t143 t144 _ (env_below HENV.out (by repeat (first | (with_reducible first | exact HB.out | apply below_alloc | apply pw_below_drewN | apply below_drew1) | exact HB.out))) A4.out).mono ?_); rintro e w8 ⟨rfl, hb⟩; refine ⟨_, rfl, ?_⟩; have n0_ := Aside0.mk (below_step (by repeat (first | (with_reducible first | exact HB.out | apply below_alloc | apply pw_below_drewN | apply below_drew1) | exact HB.out)) hb); clear HB; have HB := n0_; clear n0_; (try clear hb); (try clear hb2); (try clear hk); (try clear hi)))
      go_ret
      exact ⟨by first | rfl | (simp [errW_none, errW_some] <;> rfl) | (simp [*, errW_none, errW_some] <;> rfl), by repeat (first | (with_reducible first | exact HB.out | apply below_alloc | apply pw_below_drewN | apply below_drew1) | exact HB.out)⟩
    · rw [if_neg c6] at H
      have c6b0 : (t144 != t142) = false := by simpa using c6
      (try (have c6b1 : decide (t144 = t142) = true := by simpa using c6))
      (try (have c6b2 : (t144 == t142) = true := by simpa using c6))
      clear c6
      obtain rfl := Option.some.inj H
      go_enter Tryd.func4, Tryd.ntmps4
      go_wp2_with (first | ((with_reducible refine gate_callee (f := 7) rfl ?_); refine goesL_ (some 12) rfl rfl Tryd.func7 (by kernel_rfl) rfl #[.int .i64 a0, .int .i64 a1] rfl (by (try simp only [List.map_toArray, List.map_cons, List.map_nil]); first | done | rfl | (simp only [List.length_drop, List.length_take]; rfl)) ?_; (with_reducible refine (spec_FirstTicketFor.calls k a0 a1 t141 t142 _ A3.out).mono ?_); rintro e w9 ⟨rfl, hb⟩; refine ⟨_, rfl, ?_⟩; have n0_ := Aside0.mk (below_step (by repeat (first | (with_reducible first | exact HB.out | apply below_alloc | apply pw_below_drewN | apply below_drew1) | exact HB.out)) hb); clear HB; have HB := n0_; clear n0_; (try clear hb); (try clear hb2); (try clear hk); (try clear hi)) | ((with_reducible refine gate_callee (f := 8) rfl ?_); refine goesL_ (some 18) rfl rfl Tryd.func8 (by kernel_rfl) rfl #[.int .i64 a0, .int .i64 a1] rfl (by (try simp only [List.map_toArray, List.map_cons, List.map_nil]); first | done | rfl | (simp only [List.length_drop, List.length_take]; rfl)) ?_; (with_reducible refine (impl_FirstTicketFor.calls a0 a1 t143 t144 _ (env_below HENV.out (by repeat (first | (with_reducible first | exact HB.out | apply below_alloc | apply pw_below_drewN | apply below_drew1) | exact HB.out))) A4.out).mono ?_); rintro e w10 ⟨rfl, hb⟩; refine ⟨_, rfl, ?_⟩; have n0_ := Aside0.mk (below_step (by repeat (first | (with_reducible first | exact HB.out | apply below_alloc | apply pw_below_drewN | apply below_drew1) | exact HB.out)) hb); clear HB; have HB := n0_; clear n0_; (try clear hb); (try clear hb2); (try clear hk); (try clear hi)))
      go_ret
      exact ⟨by first | rfl | (simp [errW_none, errW_some] <;> rfl) | (simp [*, errW_none, errW_some] <;> rfl), by repeat (first | (with_reducible first | exact HB.out | apply below_alloc | apply pw_below_drewN | apply below_drew1) | exact HB.out)⟩
  · rw [if_neg c5] at H
    have c5b0 : (t143.toList == t141.toList) = false := beq_eq_false_iff_ne.mpr c5
    have c5b1 : (t143.toList != t141.toList) = true := bne_iff_ne.mpr c5
    obtain rfl := Option.some.inj H
    go_enter Tryd.func4, Tryd.ntmps4
    go_wp2_with (first | ((with_reducible refine gate_callee (f := 7) rfl ?_); refine goesL_ (some 12) rfl rfl Tryd.func7 (by kernel_rfl) rfl #[.int .i64 a0, .int .i64 a1] rfl (by (try simp only [List.map_toArray, List.map_cons, List.map_nil]); first | done | rfl | (simp only [List.length_drop, List.length_take]; rfl)) ?_; (with_reducible refine (spec_FirstTicketFor.calls k a0 a1 t141 t142 _ A3.out).mono ?_); rintro e w11 ⟨rfl, hb⟩; refine ⟨_, rfl, ?_⟩; have n0_ := Aside0.mk (below_step (by repeat (first | (with_reducible first | exact HB.out | apply below_alloc | apply pw_below_drewN | apply below_drew1) | exact HB.out)) hb); clear HB; have HB := n0_; clear n0_; (try clear hb); (try clear hb2); (try clear hk); (try clear hi)) | ((with_reducible refine gate_callee (f := 8) rfl ?_); refine goesL_ (some 18) rfl rfl Tryd.func8 (by kernel_rfl) rfl #[.int .i64 a0, .int .i64 a1] rfl (by (try simp only [List.map_toArray, List.map_cons, List.map_nil]); first | done | rfl | (simp only [List.length_drop, List.length_take]; rfl)) ?_; (with_reducible refine (impl_FirstTicketFor.calls a0 a1 t143 t144 _ (env_below HENV.out (by repeat (first | (with_reducible first | exact HB.out | apply below_alloc | apply pw_below_drewN | apply below_drew1) | exact HB.out))) A4.out).mono ?_); rintro e w12 ⟨rfl, hb⟩; refine ⟨_, rfl, ?_⟩; have n0_ := Aside0.mk (below_step (by repeat (first | (with_reducible first | exact HB.out | apply below_alloc | apply pw_below_drewN | apply below_drew1) | exact HB.out)) hb); clear HB; have HB := n0_; clear n0_; (try clear hb); (try clear hb2); (try clear hk); (try clear hi)))
    go_ret
    exact ⟨by first | rfl | (simp [errW_none, errW_some] <;> rfl) | (simp [*, errW_none, errW_some] <;> rfl), by repeat (first | (with_reducible first | exact HB.out | apply below_alloc | apply pw_below_drewN | apply below_drew1) | exact HB.out)⟩

/-- THE ONE PURE STATEMENT of laws_FnExactFirstTicketFor: yours. -/
def laws_FnExactFirstTicketFor.Pure : Prop := ∀ (a0 : Int) (a1 : Int), (Lit.int .i64 a0).wf = true → (Lit.int .i64 a1).wf = true → ∃ k, laws_FnExactFirstTicketFor.f k a0 a1 = some true
theorem laws_FnExactFirstTicketFor.walk (P : laws_FnExactFirstTicketFor.Pure) (a0 : Int) (a1 : Int) (w : World) (henv : EnvT w) (w0 : (Lit.int .i64 a0).wf = true) (w1 : (Lit.int .i64 a1).wf = true) :
    Calls Tryd.prog 4 #[.int .i64 a0, .int .i64 a1] w fun e w' => e = .returned (.bool true) ∧ Below w.heap.size w w' := by
  obtain ⟨k, h⟩ := P a0 a1 w0 w1
  refine (laws_FnExactFirstTicketFor.calls k a0 a1 true w henv h).mono ?_
  rintro e w' ⟨rfl, hd⟩
  exact ⟨rfl, hd⟩

end Go.Proofs.YtbmekbhfcngfnaaDoor.PFnExactFirstTicketFor
