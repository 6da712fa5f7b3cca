/- strings.NewReplacer and its Replace, for the pairs that impl.TurnSigns gives, walked in the library's own text: sync.Once done by one goroutine, the table of 256 bytes that is built, the bytes that are exchanged by it. -/
import Derived.Test.YtalcjjiahocpmaaRepA
import Derived.Test.YtalcjjiahocpmaaWWords
import Derived.Test.YtalcjjiahocpmaaWLast
import Derived.Test.YtalcjjiahocpmaaWMore
import Derived.Tactics
import Derived.Tactics2
import Derived.Defers
import Derived.Below
import Derived.BigQuiet
import Derived.WalkKit
import Derived.Laws.Pointers
import Derived.Laws.LoneSync
import Derived.Laws.NewBlocks
import Derived.RegionTactic
import Derived.RegionCalls
import Derived.ChangeAlike
import Derived.Deep.WholeRow
import Derived.Deep.MidRow
import Derived.Lib.ConvBytes
import Derived.Lib.SliceRun
import Derived.Laws.IdiomStrings
import Derived.Laws.EntriesVeiled
set_option linter.unusedVariables false
set_option linter.unusedSimpArgs false
namespace Go.Proofs.Ytalcjjiahocpmaa.Rep
open Go.RowKit Go.Proofs.YtalcjjiahocpmaaW.PrintWords Go.Proofs.YtalcjjiahocpmaaW.PrintLast Go.Proofs.YtalcjjiahocpmaaW.PrintMore
def turnTab : List Int := ((List.range 256).map fun (i : Nat) => (i : Int)).set 45 43 |>.set 43 45
/-- What stands behind Do. -/
def RepT (b base : Nat) (w w' : World) : Prop := ∃ T, w'.cell? ⟨b, 3, none⟩ = some (.iface 65 (.pointer (some ⟨T, 0, none⟩))) ∧ RowB w' T 256 turnTab ∧ Below base w w'
theorem below_set_ {B : Nat} {w w' : World} (h : Below B w w') {b : Nat} (hb : B ≤ b) (o : Nat) (v : Value) : Below B w (w'.setCell ⟨b, o, none⟩ v) := h.setCell (show B ≤ b from hb) _
theorem repT_end {b base : Nat} {w w2 : World} {s y4 : Value} {T : Nat} (hbb : base ≤ b) (hT : T ≠ b) (h : w2.heap[b]? = some (.cells #[.int .u32 0, .int .i32 1, s, .iface 65 (.pointer (some ⟨T, 0, none⟩)), y4] 45 (0, 0))) (hR : RowB w2 T 256 turnTab) (hB : Below base w w2) :
    RepT b base w ((w2.drew.setCell ⟨b, 0, none⟩ (.int .u32 1)).setCell ⟨b, 1, none⟩ (.int .i32 0)) := by
  have h3 : w2.cell? ⟨b, 3, none⟩ = some (.iface 65 (.pointer (some ⟨T, 0, none⟩))) := (blk_cell h 3).trans rfl
  refine ⟨T, ?_, ?_, below_set_ (below_set_ (pw_below_drewN hB 1) hbb 0 _) hbb 1 _⟩
  · rw [World.cell?_setCell_other _ _ _ _ (by simp), World.cell?_setCell_other _ _ _ _ (by simp)]
    exact h3
  · refine rowB_block hR ?_
    rw [Below.heap_setCell _ _ _ _ hT, Below.heap_setCell _ _ _ _ hT]
    rfl
set_option maxRecDepth 100000 in
set_option maxHeartbeats 1600000 in
theorem slow_calls (b base : Nat) (hbb : base ≤ b) (w : World) (s x3 x4 : Value) (hblk : w.heap[b]? = some (.cells #[.int .u32 0, .int .i32 0, s, x3, x4] 45 (0, 0)))
    (hfn : Calls Try.prog 15 #[.pointer (some ⟨b, 0, none⟩)] (w.setCell ⟨b, 1, none⟩ (.int .i32 1)) fun e w' => e = .returned (.tuple #[]) ∧ ∃ T y4, w'.heap[b]? = some (.cells #[.int .u32 0, .int .i32 1, s, .iface 65 (.pointer (some ⟨T, 0, none⟩)), y4] 45 (0, 0)) ∧ RowB w' T 256 turnTab ∧ T ≠ b ∧ Below base w w') :
    Calls Try.prog 21 #[.pointer (some ⟨b, 0, none⟩), .func (.func 15) #[.pointer (some ⟨b, 0, none⟩)] #[]] w fun e w' => e = .returned (.tuple #[]) ∧ RepT b base w w' := by
  have h0 : w.cell? ⟨b, 0, none⟩ = some (.int .u32 0) := (blk_cell hblk 0).trans rfl
  have h1 : w.cell? ⟨b, 1, none⟩ = some (.int .i32 0) := (blk_cell hblk 1).trans rfl
  have f1 : w.frozen? ⟨b, 1, none⟩ = false := blk_frozen hblk 1
  have hl := run_call_load (P := Try.prog) Try.func26 (by kernel_rfl) (by kernel_rfl) (by kernel_rfl) .u32 (by kernel_rfl) (w := w.setCell ⟨b, 1, none⟩ (.int .i32 1)) (a := ⟨b, 0, none⟩) (x := 0) ((World.cell?_setCell_other _ ⟨b, 1, none⟩ ⟨b, 0, none⟩ _ (by simp)).trans h0)
  have hnot : ∀ (x : Bool) (w : World), (Op.unary .not (.bool x)).run Try.prog w = .ok (.bool (!x)) w := fun _ _ => rfl
  have HF := Aside0.mk hfn
  clear hfn
  go_enter_defers Try.func21, Try.ntmps21
  go_wp2_with (go_at_call 27; refine (lock_free ⟨b, 1, none⟩ _ (by go_simp) (by go_simp)).mono ?_; rintro e w' ⟨rfl, rfl⟩)
  go_wp2_with (first | (go_at_call 15; refine HF.out.mono ?_; rintro e w2 ⟨rfl, T, y4, hb2, hR, hT, hB⟩) | go_in)
  have HP := Aside0.mk (repT_end hbb hT hb2 hR hB)
  have g0 : w2.cell? ⟨b, 0, none⟩ = some (.int .u32 0) := (blk_cell hb2 0).trans rfl
  have g1 : w2.cell? ⟨b, 1, none⟩ = some (.int .i32 1) := (blk_cell hb2 1).trans rfl
  have e0 : w2.frozen? ⟨b, 0, none⟩ = false := blk_frozen hb2 0
  have e1 : w2.frozen? ⟨b, 1, none⟩ = false := blk_frozen hb2 1
  clear hb2 hR hT hB
  refine leaves_cons (f := 29) (args := #[.pointer (some ⟨b, 0, none⟩), .bool true]) (by simp) (by simp [go_sem]) ?_
  refine (store_deferred ⟨b, 0, none⟩ (.int .u32 0) .returning _ g0 e0).mono ?_
  rintro e u' w'' ⟨rfl, rfl, rfl⟩
  refine leaves_cons (f := 28) (args := #[.pointer (some ⟨b, 1, none⟩)]) (by simp [settle]) (by simp [go_sem]) ?_
  refine (unlock_deferred ⟨b, 1, none⟩ _ _ ?_ (by simp [e1])).mono ?_
  · refine (World.cell?_setCell_other _ ⟨b, 0, none⟩ ⟨b, 1, none⟩ _ (by simp)).trans ?_
    rw [World.cell?_drew]
    exact g1
  rintro e u' w'' ⟨rfl, rfl, rfl⟩
  have HP2 := HP.out
  simp [Leaves, settle, results, Try.results21]
  exact HP2
set_option maxRecDepth 100000 in
set_option maxHeartbeats 1600000 in
theorem do_calls (b base : Nat) (hbb : base ≤ b) (w : World) (s x3 x4 : Value) (hblk : w.heap[b]? = some (.cells #[.int .u32 0, .int .i32 0, s, x3, x4] 45 (0, 0)))
    (hfn : Calls Try.prog 15 #[.pointer (some ⟨b, 0, none⟩)] (w.setCell ⟨b, 1, none⟩ (.int .i32 1)) fun e w' => e = .returned (.tuple #[]) ∧ ∃ T y4, w'.heap[b]? = some (.cells #[.int .u32 0, .int .i32 1, s, .iface 65 (.pointer (some ⟨T, 0, none⟩)), y4] 45 (0, 0)) ∧ RowB w' T 256 turnTab ∧ T ≠ b ∧ Below base w w') :
    Calls Try.prog 14 #[.pointer (some ⟨b, 0, none⟩), .func (.func 15) #[.pointer (some ⟨b, 0, none⟩)] #[]] w fun e w' => e = .returned (.tuple #[]) ∧ RepT b base w w' := by
  have h0 : w.cell? ⟨b, 0, none⟩ = some (.int .u32 0) := (blk_cell hblk 0).trans rfl
  have hl := run_call_load (P := Try.prog) Try.func26 (by kernel_rfl) (by kernel_rfl) (by kernel_rfl) .u32 (by kernel_rfl) h0
  have hnot : ∀ (x : Bool) (w : World), (Op.unary .not (.bool x)).run Try.prog w = .ok (.bool (!x)) w := fun _ _ => rfl
  have HS := Aside0.mk (slow_calls b base hbb w s x3 x4 hblk hfn)
  clear hfn
  go_enter Try.func14, Try.ntmps14
  go_wp2_with (first | (go_at_call 21; refine HS.out.mono ?_; rintro e w' ⟨rfl, hP⟩; have HP := Aside0.mk hP; clear hP) | (go_at_call 20; go_in))
  go_end0
  exact ⟨rfl, HP.out⟩

end Go.Proofs.Ytalcjjiahocpmaa.Rep
