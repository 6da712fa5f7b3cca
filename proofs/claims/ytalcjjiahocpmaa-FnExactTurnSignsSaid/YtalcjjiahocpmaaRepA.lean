/- strings.NewReplacer and its Replace, for the pairs that impl.TurnSigns gives, walked in the library's own text: sync.Once done by one goroutine, the table of 256 bytes that is built, the bytes that are exchanged by it. -/
import Derived.Test.YtalcjjiahocpmaaProg
import Derived.Test.YtalcjjiahocpmaaWWords
import Derived.Test.YtalcjjiahocpmaaWLast
import Derived.Test.YtalcjjiahocpmaaWMore
import Derived.Tactics
import Derived.Tactics2
import Derived.Defers
import Derived.Below
import Derived.BigQuiet
import Derived.WalkKit
import Derived.Laws.Pointers
import Derived.Laws.LoneSync
import Derived.Laws.NewBlocks
import Derived.RegionTactic
import Derived.RegionCalls
import Derived.ChangeAlike
import Derived.Deep.WholeRow
import Derived.Deep.MidRow
import Derived.Lib.ConvBytes
import Derived.Lib.SliceRun
import Derived.Laws.IdiomStrings
import Derived.Laws.EntriesVeiled
set_option linter.unusedVariables false
set_option linter.unusedSimpArgs false
namespace Go.Proofs.Ytalcjjiahocpmaa.Rep
open Go.RowKit Go.Proofs.YtalcjjiahocpmaaW.PrintWords Go.Proofs.YtalcjjiahocpmaaW.PrintLast Go.Proofs.YtalcjjiahocpmaaW.PrintMore
/-- Block B's first n cells are the bytes xs, and none of them is frozen. -/
def RowB (W : World) (B n : Nat) (xs : List Int) : Prop :=
  B < W.heap.size ∧ xs.length = n ∧ (∀ j : Nat, j < n → W.cell? ⟨B, j, none⟩ = some (.int .u8 (rd xs j))) ∧ (∀ j : Nat, j < n → W.frozen? ⟨B, j, none⟩ = false)
theorem rowB_made (w : World) (s : ByteArray) (cap : Nat) (e : TypeId) :
    RowB (w.alloc (.cells (bytesRow s cap) e ((bytesRow s cap).size, (bytesRow s cap).size + 1))) w.heap.size s.size (bytesOf s) := by
  have hs : s.size ≤ (bytesRow s cap).size := by
    have h1 : s.data.size = s.size := rfl
    simp [bytesRow] <;> omega
  refine ⟨by simp, bytesOf_length s, fun j hj => ?_, fun j hj => ?_⟩
  · rw [World.cell?_alloc_mark]
    have h0 : j < s.data.size := hj
    have h1 : j < (s.data.map (fun b => Value.int .u8 b.toNat)).size := by simpa using h0
    unfold bytesRow
    rw [Array.getElem?_append_left h1, Array.getElem?_eq_getElem h1]
    rw [rd_bytesOf]
    have hb : bt s (j : Int) = (s.data[j].toNat : Int) := by
      unfold bt
      have h2 : (j : Int).toNat < s.size := by simpa using hj
      rw [dif_pos h2]
      rfl
    rw [hb]
    simp
  · rw [World.frozen?_alloc_mark]
    simp; omega
theorem rowB_set {W : World} {B n : Nat} {xs : List Int} (h : RowB W B n xs) (i : Nat) (hi : i < n) (v : Int) :
    RowB (W.setCell ⟨B, i, none⟩ (.int .u8 v)) B n (xs.set i v) := by
  obtain ⟨h0, h1, h2, h3⟩ := h
  refine ⟨by simpa [World.setCell] using h0, by simpa using h1, fun j hj => ?_, fun j hj => ?_⟩
  · by_cases e : j = i
    · subst e
      rw [World.cell?_setCell_same (h := h2 j hj)]
      have : j < xs.length := by omega
      simp [rd, this]
    · rw [World.cell?_setCell_other (w := W) (a := ⟨B, i, none⟩) (b := ⟨B, j, none⟩) (h := fun c => e (congrArg Addr.off c).symm), h2 j hj]
      have e' : ¬ i = j := fun c => e c.symm
      simp [rd, List.getD_eq_getElem?_getD, List.getElem?_set, e']
  · rw [World.frozen?_setCell]; exact h3 j hj
theorem rowB_block {W W' : World} {B n : Nat} {xs : List Int} (h : RowB W B n xs) (hb : W'.heap[B]? = W.heap[B]?) : RowB W' B n xs := by
  obtain ⟨h0, h1, h2, h3⟩ := h
  have hs : B < W'.heap.size := by
    rcases Nat.lt_or_ge B W'.heap.size with h | h
    · exact h
    · rw [Array.getElem?_eq_none h] at hb
      rw [Array.getElem?_eq_getElem h0] at hb
      cases hb
  exact ⟨hs, h1, fun j hj => (World.cell?_of_block (w := W) hb).trans (h2 j hj), fun j hj => (World.frozen?_of_block (w := W) hb).trans (h3 j hj)⟩
theorem rowB_below {W W' : World} {B n : Nat} {xs : List Int} (h : RowB W B n xs) (hb : Below W.heap.size W W') : RowB W' B n xs := rowB_block h (hb.block B h.1)
theorem rowB_drewN {W : World} {B n : Nat} {xs : List Int} (h : RowB W B n xs) (m : Nat) : RowB (W.drewN m) B n xs := rowB_block h rfl
/-- 'string(b)' of such a row. -/
theorem rowB_string {P : Program} {W : World} {B n cap : Nat} {xs : List Int} {src dst e : TypeId} (h : RowB W B n xs) (hx : ∀ c ∈ xs, 0 ≤ c ∧ c < 256)
    (hs : P.underlying src = some (.slice e)) (he : P.underlying e = some (.int .u8)) (hd : P.underlying dst = some .string) :
    (convert src dst (.slice (some ⟨B, 0, none⟩) n cap)).run P W = .ok (.string (strOfNums xs)) W := by
  obtain ⟨h0, h1, h2, h3⟩ := h
  have := run_convert_bytes_back (P := P) W src dst e ⟨B, 0, none⟩ cap (xs.map fun c => UInt8.ofNat c.toNat) hs he hd (fun j hj => by
    have hj' : j < n := by simpa [h1] using hj
    have hj2 : j < xs.length := by omega
    have hm := hx xs[j] (List.getElem_mem hj2)
    rw [Addr.add_lit, Nat.zero_add, h2 j hj']
    simp [rd, hj2]
    omega)
  rw [show (xs.map fun c => UInt8.ofNat c.toNat).length = n by simpa using h1] at this
  rw [this]
  simp [strOfNums]


theorem disable_ (w : World) : (callFunc 38 #[]).run Try.prog w = .ok (.value (.tuple #[])) w := run_call_mark0 Try.func38 (by kernel_rfl) (by kernel_rfl) (by kernel_rfl) .disable (by kernel_rfl) w
theorem enable_ (w : World) : (callFunc 40 #[]).run Try.prog w = .ok (.value (.tuple #[])) w := run_call_mark0 Try.func40 (by kernel_rfl) (by kernel_rfl) (by kernel_rfl) .enable (by kernel_rfl) w
theorem acquire_ (a : Addr) (w : World) : (callFunc 41 #[.pointer (some a)]).run Try.prog w = .ok (.value (.tuple #[])) w := run_call_marked Try.func41 (by kernel_rfl) (by kernel_rfl) (by kernel_rfl) .acquire (by kernel_rfl) a w
theorem releaseMerge_ (a : Addr) (w : World) : (callFunc 43 #[.pointer (some a)]).run Try.prog w = .ok (.value (.tuple #[])) w := run_call_marked Try.func43 (by kernel_rfl) (by kernel_rfl) (by kernel_rfl) .releaseMerge (by kernel_rfl) a w
set_option maxRecDepth 100000 in
set_option maxHeartbeats 1600000 in
theorem store_deferred (a : Addr) (x : Value) (u : FrameMode) (w : World) (hc : w.cell? a = some x) (hz : w.frozen? a = false) :
    CallsD Try.prog 29 #[.pointer (some a), .bool true] u w fun e u' w' => u' = u ∧ (e = .returned (.tuple #[]) ∧ w' = w.drew.setCell a (.int .u32 1)) := by
  have hc' : w.drew.cell? a = some x := by go_simp
  have hz' : w.drew.frozen? a = false := by go_simp
  have hst := run_call_store (P := Try.prog) Try.func34 (by kernel_rfl) (by kernel_rfl) (by kernel_rfl) (by kernel_rfl) (k := .u32) (y := 1) hc' hz'
  go_enter_d Try.func29, Try.ntmps29
  go_wp2
  go_region_calls
  all_goals (go_end0; exact ⟨rfl, rfl⟩)
set_option maxRecDepth 100000 in
set_option maxHeartbeats 1600000 in
theorem unlock_deferred (a : Addr) (u : FrameMode) (w : World) (hc : w.cell? a = some (.int .i32 1)) (hz : w.frozen? a = false) :
    CallsD Try.prog 28 #[.pointer (some a)] u w fun e u' w' => u' = u ∧ (e = .returned (.tuple #[]) ∧ w' = w.setCell a (.int .i32 0)) := by
  have hd := disable_
  have he := enable_
  have hr := releaseMerge_
  have hadd := run_call_add (P := Try.prog) Try.func44 (by kernel_rfl) (by kernel_rfl) (by kernel_rfl) .i32 (by kernel_rfl) (y := -1) (s := 0) hc hz (by simp [go_sem]; rfl)
  have hcv := run_convert_to_unsafe (P := Try.prog) (src := 84) (dst := 88) Try.underlying84 Try.underlying88 (by kernel_rfl) hc
  go_enter_d Try.func28, Try.ntmps28
  go_wp2
  go_end0
  go_wp2
  go_end0
  exact ⟨rfl, rfl⟩
set_option maxRecDepth 100000 in
set_option maxHeartbeats 1600000 in
theorem lock_free (a : Addr) (w : World) (hc : w.cell? a = some (.int .i32 0)) (hz : w.frozen? a = false) :
    Calls Try.prog 27 #[.pointer (some a)] w fun e w' => e = .returned (.tuple #[]) ∧ w' = w.setCell a (.int .i32 1) := by
  have hd := disable_
  have he := enable_
  have ha := acquire_
  have hcas := run_call_cas_hit (P := Try.prog) Try.func39 (by kernel_rfl) (by kernel_rfl) (by kernel_rfl) .i32 (by kernel_rfl) (y := 1) hc hz
  have hc' : (w.setCell a (.int .i32 1)).cell? a = some (.int .i32 1) := World.cell?_setCell_same w a _ hc
  have hcv := run_convert_to_unsafe (P := Try.prog) (src := 84) (dst := 88) Try.underlying84 Try.underlying88 (by kernel_rfl) hc'
  go_enter Try.func27, Try.ntmps27
  go_wp2
  first | go_end0 | (simp only [Exit.inBlock, Exit.then]; refine bodyPost_ret (results_none rfl _ _ _) rfl ?_) | refine bodyPost_ret (results_none rfl _ _ _) rfl ?_
  go_wp2
  go_end0
  exact ⟨rfl, rfl⟩

end Go.Proofs.Ytalcjjiahocpmaa.Rep
