/- strings.NewReplacer and its Replace, for the pairs that impl.TurnSigns gives, walked in the library's own text: sync.Once done by one goroutine, the table of 256 bytes that is built, the bytes that are exchanged by it. -/
import Derived.Test.YtalcjjiahocpmaaRepB
import Derived.Test.YtalcjjiahocpmaaWWords
import Derived.Test.YtalcjjiahocpmaaWLast
import Derived.Test.YtalcjjiahocpmaaWMore
import Derived.Tactics
import Derived.Tactics2
import Derived.Defers
import Derived.Below
import Derived.BigQuiet
import Derived.WalkKit
import Derived.Laws.Pointers
import Derived.Laws.LoneSync
import Derived.Laws.NewBlocks
import Derived.RegionTactic
import Derived.RegionCalls
import Derived.ChangeAlike
import Derived.Deep.WholeRow
import Derived.Deep.MidRow
import Derived.Lib.ConvBytes
import Derived.Lib.SliceRun
import Derived.Laws.IdiomStrings
import Derived.Laws.EntriesVeiled
set_option linter.unusedVariables false
set_option linter.unusedSimpArgs false
namespace Go.Proofs.Ytalcjjiahocpmaa.Rep
open Go.RowKit Go.Proofs.YtalcjjiahocpmaaW.PrintWords Go.Proofs.YtalcjjiahocpmaaW.PrintLast Go.Proofs.YtalcjjiahocpmaaW.PrintMore
theorem below_setCells_ {B : Nat} {w0 : World} {T : Nat} (hT : B ≤ T) : ∀ (vs : List Value) (o : Nat) (w : World), Below B w0 w → Below B w0 (w.setCells T o vs)
  | [], _, _, h => h
  | v :: r, o, w, h => by
    rw [World.setCells]
    exact below_setCells_ hT r (o + 1) _ (below_set_ h hT o v)
theorem setCells_size_ (T : Nat) : ∀ (vs : List Value) (o : Nat) (w : World), (w.setCells T o vs).heap.size = w.heap.size
  | [], _, _ => rfl
  | v :: r, o, w => by
    rw [World.setCells, setCells_size_ T r (o + 1)]
    simp [World.setCell]
theorem rowB_new {W : World} {zs : Array Value} (hzs : zs = Array.replicate 256 (.int .u8 0)) (e : TypeId) : RowB (W.alloc (.cells zs e)) W.heap.size 256 (List.replicate 256 0) := by
  refine ⟨by simp, List.length_replicate .., fun j hj => ?_, fun j hj => ?_⟩
  · have h := blk_cell (heap_alloc_last W (.cells zs e)) j
    rw [h, hzs, Array.getElem?_replicate, if_pos hj]
    have : rd (List.replicate 256 0) (j : Int) = 0 := by
      unfold rd
      rw [List.getD_eq_getElem?_getD]
      simp only [Int.toNat_natCast, List.getElem?_replicate]
      split <;> rfl
    rw [this]
  · exact blk_frozen (heap_alloc_last W (.cells zs e)) j
theorem tab_eq (xs : List Int) (h : xs.length = 256) (hx : ∀ j : Nat, j < 256 → rd xs (j : Int) = (j : Int)) : (xs.set 45 43).set 43 45 = turnTab := by
  unfold turnTab
  congr 2
  refine List.ext_getElem (by simp [h]) fun j h1 h2 => ?_
  have h3 := hx j (by omega)
  have h4 : rd xs (j : Int) = xs[j] := by simp [rd, h1]
  rw [← h4, h3]
  simp
set_option maxRecDepth 100000 in
set_option maxHeartbeats 4000000 in
theorem build_calls (b g cap : Nat) (w : World) (x0 x1 s : Value) (hblk : w.heap[b]? = some (.cells #[x0, x1, s, .nilIface, .slice (some ⟨g, 0, none⟩) 4 cap] 45 (0, 0)))
    (hg : g < w.heap.size) (hs0 : w.cell? ⟨g, 0, none⟩ = some (.string (⟨#[43]⟩ : ByteArray))) (hs1 : w.cell? ⟨g, 1, none⟩ = some (.string (⟨#[45]⟩ : ByteArray))) (hs2 : w.cell? ⟨g, 2, none⟩ = some (.string (⟨#[45]⟩ : ByteArray))) (hs3 : w.cell? ⟨g, 3, none⟩ = some (.string (⟨#[43]⟩ : ByteArray))) :
    Calls Try.prog 22 #[.pointer (some ⟨b, 0, none⟩)] w fun e w' => ∃ T, e = .returned (.iface 65 (.pointer (some ⟨T, 0, none⟩))) ∧ RowB w' T 256 turnTab ∧ w.heap.size ≤ T ∧ Below w.heap.size w w' := by
  have h4 : w.cell? ⟨b, 4, none⟩ = some (.slice (some ⟨g, 0, none⟩) 4 cap) := (blk_cell hblk 4).trans rfl
  obtain ⟨zs, hzs⟩ : ∃ zs : Array Value, zs = Array.replicate 256 (.int .u8 0) := ⟨_, rfl⟩
  have hzz := zero_of_info (P := Try.prog) (t := 64) (v := .agg (Array.replicate 256 (.int .u8 0))) (n := 256) (by kernel_rfl)
  rw [← hzs] at hzz
  have hz := hzz.1
  have hzsz : zs.size = 256 := by rw [hzs]; exact Array.size_replicate
  have hst : ∀ m : Nat, (storeCells ⟨w.heap.size, 0, none⟩ zs.toList 0).run Try.prog ((w.drewN m).alloc (.cells zs 64)) = .ok () ((w.drewN m).alloc (.cells zs 64)) := fun m => run_storeCells_new (w.drewN m) 64 zs zs (by rw [hzz.2, hzsz]) rfl (by
    rw [hzs]
    exact Array.all_eq_true_iff_forall_mem.2 (fun v hv => by rw [(Array.mem_replicate.mp hv).2]; rfl))
  clear hzz
  have HZ0 := Aside0.mk hzs
  clear hzs
  have HB0 := Aside0.mk hblk
  clear hblk
  go_enter Try.func22, Try.ntmps22
  go_wp2
  go_loopg [4, 5] 2 (fun d v4 v5 w' => v4 = .bool true ∧ ∃ j : Nat, v5 = .int .i64 ((2 * j : Nat) : Int) ∧ Aside0 (j + d = 2) ∧ ∃ n, w' = w.drewN n)
  case atStart => exact ⟨rfl, 0, rfl, ⟨rfl⟩, 0, rfl⟩
  case round =>
    obtain ⟨rfl, j, rfl, HJ, n, rfl⟩ := hrel
    cases gk with
    | succ k1 =>
      have hj := HJ.out
      obtain rfl | rfl : j = 0 ∨ j = 1 := by omega
      · clear hj
        go_wp2
        go_roundg k1
        case measure => omega
        case rel => exact ⟨rfl, 1, rfl, ⟨by have := HJ.out; omega⟩, _, rfl⟩
      · clear hj
        go_wp2
        go_roundg k1
        case measure => omega
        case rel => exact ⟨rfl, 2, rfl, ⟨by have := HJ.out; omega⟩, _, rfl⟩
    | zero =>
      have hj : j = 2 := HJ.out
      subst hj
      go_wp2
      clear hz hst
      have HR := Aside0.mk (rowB_new (W := w.drewN n) HZ0.out 64)
      go_loopg [61] 256 (fun d v61 w' => ∃ (k : Nat) (xs : List Int), v61 = .int .i64 (k : Int) ∧ Aside0 (k + d = 256) ∧ Aside0 (RowB w' w.heap.size 256 xs) ∧ Aside0 (∀ j : Nat, j < k → rd xs (j : Int) = (j : Int)) ∧ Aside0 (Below w.heap.size w w'))
      case atStart => exact ⟨0, _, rfl, ⟨rfl⟩, HR, ⟨fun j hj => absurd hj (Nat.not_lt_zero j)⟩, ⟨(Drawn0.below (w := w) ⟨_, rfl⟩).alloc (Nat.le_refl _) _⟩⟩
      case round =>
        clear HR
        obtain ⟨k, xs, rfl, HK, HR, HX, HB⟩ := hrel
        cases gk with
        | succ d =>
          have hk : k < 256 := by have := HK.out; omega
          have hcell := HR.out.2.2.1 k hk
          have hfr := HR.out.2.2.2 k hk
          have hlt : (k : Int) < 256 := by omega
          have HRS := Aside0.mk (rowB_set HR.out k hk (k : Int))
          go_wp2
          go_roundg d
          case measure => omega
          case rel => exact ⟨k + 1, xs.set k (k : Int), by go_num, ⟨by have := HK.out; omega⟩, HRS, ⟨fun j hj => by
            have hl := HR.out.2.1
            by_cases e : j = k
            · subst e
              have : j < xs.length := by omega
              simp [rd, this]
            · have e' : ¬ k = j := fun c => e c.symm
              have := HX.out j (by omega)
              simpa [rd, List.getD_eq_getElem?_getD, List.getElem?_set, e'] using this⟩, ⟨below_set_ HB.out (Nat.le_refl _) _ _⟩⟩
        | zero =>
          have hk : k = 256 := by have := HK.out; omega
          subst hk
          have HX2 := Aside0.mk (tab_eq xs HR.out.2.1 HX.out)
          have HG := Aside0.mk hg
          have HS := Aside0.mk (And.intro hs0 (And.intro hs1 (And.intro hs2 hs3)))
          clear hs0 hs1 hs2 hs3 hg h4 hzsz HK HX HB0
          go_wp2
          go_loopg [8] 2 (fun d v8 w' => ∃ (j : Nat) (ys : List Int), v8 = .int .i64 (2 - 2 * (j : Int)) ∧ Aside0 (j + d = 2) ∧ Aside0 (RowB w' w.heap.size 256 ys) ∧ Aside0 ((j = 0 → ys = xs) ∧ (j = 1 → ys = xs.set 45 43) ∧ (j = 2 → ys = turnTab)) ∧ Aside0 (Below w.heap.size w w'))
          case atStart => exact ⟨0, xs, rfl, ⟨rfl⟩, HR, ⟨fun _ => rfl, fun h => absurd h (by omega), fun h => absurd h (by omega)⟩, HB⟩
          case round =>
            clear HR HB
            obtain ⟨j, ys, rfl, HJ, HR, HY, HB⟩ := hrel
            cases gk with
            | succ d =>
              have c0 : wr.cell? ⟨g, 0, none⟩ = some (.string (⟨#[43]⟩ : ByteArray)) := (Below.cell HB.out HG.out).trans HS.out.1
              have c1 : wr.cell? ⟨g, 1, none⟩ = some (.string (⟨#[45]⟩ : ByteArray)) := (Below.cell HB.out HG.out).trans HS.out.2.1
              have c2 : wr.cell? ⟨g, 2, none⟩ = some (.string (⟨#[45]⟩ : ByteArray)) := (Below.cell HB.out HG.out).trans HS.out.2.2.1
              have c3 : wr.cell? ⟨g, 3, none⟩ = some (.string (⟨#[43]⟩ : ByteArray)) := (Below.cell HB.out HG.out).trans HS.out.2.2.2
              have t45 := HR.out.2.2.1 45 (by omega)
              have t43 := HR.out.2.2.1 43 (by omega)
              have z45 := HR.out.2.2.2 45 (by omega)
              have z43 := HR.out.2.2.2 43 (by omega)
              have b45 : (⟨#[45]⟩ : ByteArray)[0]'(by decide) = 45 := rfl
              have b43 : (⟨#[43]⟩ : ByteArray)[0]'(by decide) = 43 := rfl
              have hj := HJ.out
              obtain rfl | rfl : j = 0 ∨ j = 1 := by omega
              · clear hj
                have HRS := Aside0.mk (rowB_set HR.out 45 (by omega) 43)
                obtain rfl := HY.out.1 rfl
                go_wp2
                go_roundg d
                case measure => omega
                case rel => exact ⟨1, ys.set 45 43, rfl, ⟨by have := HJ.out; omega⟩, HRS, ⟨fun h => absurd h (by omega), fun _ => rfl, fun h => absurd h (by omega)⟩, ⟨below_set_ HB.out (Nat.le_refl _) _ _⟩⟩
              · clear hj
                obtain rfl := HY.out.2.1 rfl
                have HRS := Aside0.mk (rowB_set HR.out 43 (by omega) 45)
                go_wp2
                go_roundg d
                case measure => omega
                case rel => exact ⟨2, (xs.set 45 43).set 43 45, rfl, ⟨by have := HJ.out; omega⟩, HRS, ⟨fun h => absurd h (by omega), fun h => absurd h (by omega), fun _ => HX2.out⟩, ⟨below_set_ HB.out (Nat.le_refl _) _ _⟩⟩
            | zero =>
              have hj : j = 2 := HJ.out
              subst hj
              obtain rfl := HY.out.2.2 rfl
              go_wp2
              refine bodyPost_ret (results_tmp rfl _ _ _) rfl ?_
              exact ⟨_, rfl, HR.out, Nat.le_refl _, HB.out⟩

end Go.Proofs.Ytalcjjiahocpmaa.Rep
