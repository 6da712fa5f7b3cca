/- strings.NewReplacer and its Replace, for the pairs that impl.TurnSigns gives, walked in the library's own text: sync.Once done by one goroutine, the table of 256 bytes that is built, the bytes that are exchanged by it. -/
import Derived.Test.YtalcjjiahocpmaaRepC
import Derived.Test.YtalcjjiahocpmaaWWords
import Derived.Test.YtalcjjiahocpmaaWLast
import Derived.Test.YtalcjjiahocpmaaWMore
import Derived.Tactics
import Derived.Tactics2
import Derived.Defers
import Derived.Below
import Derived.BigQuiet
import Derived.WalkKit
import Derived.Laws.Pointers
import Derived.Laws.LoneSync
import Derived.Laws.NewBlocks
import Derived.RegionTactic
import Derived.RegionCalls
import Derived.ChangeAlike
import Derived.Deep.WholeRow
import Derived.Deep.MidRow
import Derived.Lib.ConvBytes
import Derived.Lib.SliceRun
import Derived.Laws.IdiomStrings
import Derived.Laws.EntriesVeiled
set_option linter.unusedVariables false
set_option linter.unusedSimpArgs false
namespace Go.Proofs.Ytalcjjiahocpmaa.Rep
open Go.RowKit Go.Proofs.YtalcjjiahocpmaaW.PrintWords Go.Proofs.YtalcjjiahocpmaaW.PrintLast Go.Proofs.YtalcjjiahocpmaaW.PrintMore
set_option maxRecDepth 100000 in
set_option maxHeartbeats 4000000 in
theorem buildOnce_calls (b g cap base : Nat) (w W : World) (s : Value) (hbb : base ≤ b) (hbW : b < W.heap.size) (hwW : Below base w W) (hblk : W.heap[b]? = some (.cells #[.int .u32 0, .int .i32 1, s, .nilIface, .slice (some ⟨g, 0, none⟩) 4 cap] 45 (0, 0)))
    (hg : g < W.heap.size) (hs0 : W.cell? ⟨g, 0, none⟩ = some (.string (⟨#[43]⟩ : ByteArray))) (hs1 : W.cell? ⟨g, 1, none⟩ = some (.string (⟨#[45]⟩ : ByteArray))) (hs2 : W.cell? ⟨g, 2, none⟩ = some (.string (⟨#[45]⟩ : ByteArray))) (hs3 : W.cell? ⟨g, 3, none⟩ = some (.string (⟨#[43]⟩ : ByteArray))) :
    Calls Try.prog 15 #[.pointer (some ⟨b, 0, none⟩)] W fun e w' => e = .returned (.tuple #[]) ∧ ∃ T y4, w'.heap[b]? = some (.cells #[.int .u32 0, .int .i32 1, s, .iface 65 (.pointer (some ⟨T, 0, none⟩)), y4] 45 (0, 0)) ∧ RowB w' T 256 turnTab ∧ T ≠ b ∧ Below base w w' := by
  have HC := Aside0.mk (build_calls b g cap W _ _ s hblk hg hs0 hs1 hs2 hs3)
  have HK := Aside0.mk (And.intro hblk (And.intro hbb (And.intro hbW hwW)))
  clear hblk hg hs0 hs1 hs2 hs3 hbb hbW hwW
  go_enter Try.func15, Try.ntmps15
  go_wp2_with (first | (go_at_call 22; refine HC.out.mono ?_; rintro e W1 ⟨T, rfl, hR, hT, hB⟩; have HQ := Aside0.mk (And.intro hR (And.intro hT hB)); have hb1 := blk_below HK.out.1 hB; have g3 := (blk_cell hb1 3).trans rfl; have g4 := (blk_cell hb1 4).trans rfl; have z3 := blk_frozen hb1 3; have z4 := blk_frozen hb1 4; clear hR hT hB hb1))
  go_end0
  obtain ⟨hR, hT, hB⟩ := HQ.out
  obtain ⟨hblk, hbb, hbW, hwW⟩ := HK.out
  have hTb : T ≠ b := by omega
  refine ⟨rfl, T, .slice none 0 0, blk_put (blk_put (blk_below hblk hB) 3 _ rfl) 4 _ rfl, ?_, hTb, below_set_ (below_set_ (hwW.trans (hB.mono (by omega))) hbb 3 _) hbb 4 _⟩
  refine rowB_block hR ?_
  rw [Below.heap_setCell _ _ _ _ hTb, Below.heap_setCell _ _ _ _ hTb]
def turned (c : Int) : Int := rd turnTab c
theorem made_string (s : ByteArray) (W : World) : ∃ (W2 : World) (cap : Nat), (convert 9 48 (.string s)).run Try.prog W = .ok (.slice (some ⟨W.heap.size, 0, none⟩) s.size cap) W2 ∧ RowB W2 W.heap.size s.size (bytesOf s) ∧ Below W.heap.size W W2 :=
  ⟨_, _, run_bytes_of_string (P := Try.prog) W 9 48 5 s Try.underlying9 Try.underlying48 Try.underlying5, rowB_made W.drew s _ 5, ((Below.refl _ _).drew).alloc (Nat.le_refl _) _⟩
theorem bt_at (s : ByteArray) (i : Nat) (h : i < s.size) : bt s (i : Int) = ((s[i].toNat : Nat) : Int) := by
  unfold bt
  rw [dif_pos (show (i : Int).toNat < s.size by simpa using h)]
  rfl
theorem strOfNums_bytesOf (s : ByteArray) : strOfNums (bytesOf s) = s := by
  unfold strOfNums bytesOf
  rw [List.map_map, show (fun c : Int => UInt8.ofNat c.toNat) ∘ (fun b : UInt8 => (b.toNat : Int)) = id from funext fun b => by simp, List.map_id]
theorem turned_done (s : ByteArray) (xs : List Int) (h : xs.length = s.size) (hx : ∀ j : Nat, j < s.size → rd xs (j : Int) = turned (bt s (j : Int))) : xs = (bytesOf s).map turned := by
  refine List.ext_getElem (by rw [List.length_map, bytesOf_length, h]) fun j h1 h2 => ?_
  have h3 := hx j (by omega)
  have h4 : rd xs (j : Int) = xs[j] := by simp [rd, h1]
  have h5 : j < (bytesOf s).length := by simpa using h2
  have h6 : rd (bytesOf s) (j : Int) = (bytesOf s)[j] := by simp [rd, h5]
  rw [rd_bytesOf] at h6
  rw [← h4, h3, List.getElem_map, ← h6]
set_option maxRecDepth 100000 in
theorem turnedL_byts (s : ByteArray) : ∀ c ∈ (bytesOf s).map turned, 0 ≤ c ∧ c < 256 := by
  intro c hc
  rw [List.mem_map] at hc
  obtain ⟨a, ha, rfl⟩ := hc
  have h : ∀ n : Nat, n < 256 → 0 ≤ turned (n : Int) ∧ turned (n : Int) < 256 := by decide
  simp only [bytesOf, List.mem_map] at ha
  obtain ⟨b, _, rfl⟩ := ha
  exact h _ b.toNat_lt
set_option maxRecDepth 100000 in
set_option maxHeartbeats 4000000 in
theorem byteRep_calls (T : Nat) (s : ByteArray) (w : World) (hsz : s.size ≤ 1048576) (hR0 : RowB w T 256 turnTab) :
    Calls Try.prog 85 #[.pointer (some ⟨T, 0, none⟩), .string s] w fun e w' => e = .returned (.string (strOfNums ((bytesOf s).map turned))) ∧ Below w.heap.size w w' := by
  have HR0 := Aside0.mk hR0
  clear hR0
  have hnil : ∀ (W : World) (a : Option Addr) (n c : Nat), (binOp .eql 48 (.slice a n c) (.slice none 0 0)).run Try.prog W = .ok (.bool a.isNone) W := fun W a n c => Lib.run_eql_slice_nil W 48 5 a n c 0 0 Try.underlying48
  have HCV := Aside0.mk (made_string s)
  go_enter Try.func85, Try.ntmps85
  go_wp2
  go_loopg [5, 6] s.size (fun d v5 v6 w' => ∃ (i : Nat) (xs : List Int), v6 = .int .i64 (i : Int) ∧ Aside0 (i + d = s.size) ∧ Aside0 (xs.length = s.size ∧ (∀ j : Nat, j < i → rd xs (j : Int) = turned (bt s (j : Int))) ∧ (∀ j : Nat, i ≤ j → rd xs (j : Int) = bt s (j : Int))) ∧ Aside0 (Below w.heap.size w w') ∧ ((v5 = .slice none 0 0 ∧ Aside0 (xs = bytesOf s)) ∨ ∃ B cap : Nat, v5 = .slice (some ⟨B, 0, none⟩) s.size cap ∧ Aside0 (w.heap.size ≤ B ∧ RowB w' B s.size xs)))
  case atStart => exact ⟨0, bytesOf s, rfl, ⟨by omega⟩, ⟨bytesOf_length s, fun j hj => absurd hj (Nat.not_lt_zero j), fun j _ => rd_bytesOf _ _⟩, ⟨Below.refl _ _⟩, .inl ⟨rfl, ⟨rfl⟩⟩⟩
  case round =>
    obtain ⟨i, xs, rfl, HI, HX, HB, hv⟩ := hrel
    have HT := Aside0.mk (rowB_below HR0.out HB.out)
    cases gk with
    | succ d =>
      have hlt : i < s.size := by have := HI.out; omega
      have hlt' : (i : Int) < (s.size : Int) := by omega
      obtain ⟨c, hc⟩ : ∃ c : Nat, s[i].toNat = c := ⟨_, rfl⟩
      have hc1 : c < 256 := by rw [← hc]; exact s[i].toNat_lt
      have hc2 : (c : Int) < 256 := by omega
      have hcell : wr.cell? ⟨T, c, none⟩ = some (.int .u8 (turned (c : Int))) := HT.out.2.2.1 c hc1
      have HBT := Aside0.mk (show bt s (i : Int) = (c : Int) by rw [bt_at s i hlt, hc])
      have HX2 := Aside0.mk (show ∀ j : Nat, i + 1 ≤ j → rd xs (j : Int) = bt s (j : Int) from fun j hj => HX.out.2.2 j (by omega))
      by_cases ht : turned (c : Int) = (c : Int)
      · have HX3 := Aside0.mk (show ∀ j : Nat, j < i + 1 → rd xs (j : Int) = turned (bt s (j : Int)) from fun j hj => by
          by_cases e : j = i
          · rw [e, HX.out.2.2 i (Nat.le_refl _), HBT.out, ht]
          · exact HX.out.2.1 j (by omega))
        obtain ⟨rfl, HA⟩ | ⟨B, cap, rfl, HA⟩ := hv
        · go_wp2
          go_roundg d
          case measure => omega
          case rel => exact ⟨i + 1, xs, by go_num, ⟨by have := HI.out; omega⟩, ⟨HX.out.1, HX3.out, HX2.out⟩, HB, .inl ⟨rfl, HA⟩⟩
        · go_wp2
          go_roundg d
          case measure => omega
          case rel => exact ⟨i + 1, xs, by go_num, ⟨by have := HI.out; omega⟩, ⟨HX.out.1, HX3.out, HX2.out⟩, HB, .inr ⟨B, cap, rfl, HA⟩⟩
      · have HX3 := Aside0.mk (show (xs.set i (turned (c : Int))).length = s.size ∧ (∀ j : Nat, j < i + 1 → rd (xs.set i (turned (c : Int))) (j : Int) = turned (bt s (j : Int))) ∧ (∀ j : Nat, i + 1 ≤ j → rd (xs.set i (turned (c : Int))) (j : Int) = bt s (j : Int)) from by
          have hl := HX.out.1
          refine ⟨by simpa using hl, fun j hj => ?_, fun j hj => ?_⟩
          · by_cases e : j = i
            · subst e
              have : j < xs.length := by omega
              rw [HBT.out]
              simp [rd, this]
            · have e' : ¬ i = j := fun c => e c.symm
              rw [← HX.out.2.1 j (by omega)]
              simp [rd, List.getD_eq_getElem?_getD, List.getElem?_set, e']
          · have e' : ¬ i = j := by omega
            rw [← HX2.out j hj]
            simp [rd, List.getD_eq_getElem?_getD, List.getElem?_set, e'])
        obtain ⟨rfl, HA⟩ | ⟨B, cap, rfl, HA⟩ := hv
        · obtain ⟨W2, cap2, hcv, hR2, hB2⟩ := HCV.out wr
          have hTw : T < wr.heap.size := HT.out.1
          have hcell2 : W2.cell? ⟨T, c, none⟩ = some (.int .u8 (turned (c : Int))) := (Below.cell hB2 hTw).trans hcell
          have hn2 := hR2.2.2.1 i hlt
          have hf2 := hR2.2.2.2 i hlt
          have HRS := Aside0.mk (rowB_set hR2 i hlt (turned (c : Int)))
          have HB2 := Aside0.mk hB2
          have HBS := Aside0.mk (show Below w.heap.size w W2 from HB.out.trans (hB2.mono HB.out.size))
          clear hR2 hB2 hTw
          go_wp2
          go_roundg d
          case measure => omega
          case rel => exact ⟨i + 1, xs.set i (turned (c : Int)), by go_num, ⟨by have := HI.out; omega⟩, HX3, ⟨below_set_ HBS.out HB.out.size _ _⟩, .inr ⟨_, cap2, rfl, ⟨HB.out.size, by rw [HA.out]; exact HRS.out⟩⟩⟩
        · have hn2 := HA.out.2.2.2.1 i hlt
          have hf2 := HA.out.2.2.2.2 i hlt
          have HRS := Aside0.mk (rowB_set HA.out.2 i hlt (turned (c : Int)))
          go_wp2
          go_roundg d
          case measure => omega
          case rel => exact ⟨i + 1, xs.set i (turned (c : Int)), by go_num, ⟨by have := HI.out; omega⟩, HX3, ⟨below_set_ HB.out HA.out.1 _ _⟩, .inr ⟨B, cap, rfl, ⟨HA.out.1, HRS.out⟩⟩⟩
    | zero =>
      have hlt : ¬ (i : Int) < (s.size : Int) := by have := HI.out; omega
      have HE := Aside0.mk (turned_done s xs HX.out.1 (fun j hj => HX.out.2.1 j (by have := HI.out; omega)))
      obtain ⟨rfl, HA⟩ | ⟨B, cap, rfl, HA⟩ := hv
      · go_wp2
        go_ret
        refine ⟨?_, HB.out⟩
        rw [← HE.out, HA.out, strOfNums_bytesOf]
        rfl
      · have hcv := rowB_string (P := Try.prog) (src := 48) (dst := 9) (e := 5) (cap := cap) HA.out.2 (by rw [HE.out]; exact turnedL_byts s) Try.underlying48 Try.underlying5 Try.underlying9
        go_wp2
        go_ret
        exact ⟨by rw [← HE.out]; rfl, HB.out⟩

theorem new_two_snd (w : World) (o1 o2 : Obj) : ((w.alloc o1).alloc o2).drew.heap[w.heap.size + 1]? = some o2 := by
  have := heap_alloc_last (w.alloc o1) o2
  rwa [show (w.alloc o1).heap.size = w.heap.size + 1 by simp] at this
theorem new_two_fst (w : World) (o1 o2 : Obj) : ((w.alloc o1).alloc o2).drew.heap[w.heap.size]? = some o1 := by
  show ((w.heap.push o1).push o2)[w.heap.size]? = _
  simp [Array.getElem?_push]
set_option maxRecDepth 100000 in
set_option maxHeartbeats 4000000 in
theorem newRep_calls (g c0 : Nat) (w : World) (hg : g < w.heap.size) (hs0 : w.cell? ⟨g, 0, none⟩ = some (.string (⟨#[43]⟩ : ByteArray))) (hs1 : w.cell? ⟨g, 1, none⟩ = some (.string (⟨#[45]⟩ : ByteArray))) (hs2 : w.cell? ⟨g, 2, none⟩ = some (.string (⟨#[45]⟩ : ByteArray))) (hs3 : w.cell? ⟨g, 3, none⟩ = some (.string (⟨#[43]⟩ : ByteArray))) :
    Calls Try.prog 8 #[.slice (some ⟨g, 0, none⟩) 4 c0] w fun e w' => ∃ b g2 cap s, e = .returned (.pointer (some ⟨b, 0, none⟩)) ∧ w.heap.size ≤ b ∧ w'.heap[b]? = some (.cells #[.int .u32 0, .int .i32 0, s, .nilIface, .slice (some ⟨g2, 0, none⟩) 4 cap] 45 (0, 0)) ∧ g2 ≠ b ∧ g2 < w'.heap.size ∧
      w'.cell? ⟨g2, 0, none⟩ = some (.string (⟨#[43]⟩ : ByteArray)) ∧ w'.cell? ⟨g2, 1, none⟩ = some (.string (⟨#[45]⟩ : ByteArray)) ∧ w'.cell? ⟨g2, 2, none⟩ = some (.string (⟨#[45]⟩ : ByteArray)) ∧ w'.cell? ⟨g2, 3, none⟩ = some (.string (⟨#[43]⟩ : ByteArray)) ∧ Below w.heap.size w w' := by
  go_enter Try.func8, Try.ntmps8
  go_wp2
  go_ret
  have hN := new_two_fst w (.cells (#[.string (⟨#[43]⟩ : ByteArray), .string (⟨#[45]⟩ : ByteArray), .string (⟨#[45]⟩ : ByteArray), .string (⟨#[43]⟩ : ByteArray)] ++ Builtin.zeroCells #[.string (⟨#[]⟩ : ByteArray)] ((Question.appendCap 4 0 9).cut (w.tape w.drawn (Question.appendCap 4 0 9)) - 4)) 9) (.cells #[.int .u32 0, .int .i32 0, .int .u32 0, .nilIface, .slice (some ⟨w.heap.size, 0, none⟩) 4 ((Question.appendCap 4 0 9).cut (w.tape w.drawn (Question.appendCap 4 0 9)))] 45)
  exact ⟨w.heap.size + 1, w.heap.size, _, .int .u32 0, rfl, by omega, new_two_snd w _ _, by omega, blk_lt hN, (blk_cell hN 0).trans ((Array.getElem?_append_left (by decide)).trans rfl), (blk_cell hN 1).trans ((Array.getElem?_append_left (by decide)).trans rfl), (blk_cell hN 2).trans ((Array.getElem?_append_left (by decide)).trans rfl), (blk_cell hN 3).trans ((Array.getElem?_append_left (by decide)).trans rfl), (((Below.refl _ w).alloc (Nat.le_refl _) _).alloc (by simp) _).drew⟩
theorem method_replace (v : Value) (w : World) : (Go.method 246 65 v "Replace").run Try.prog w = .ok (85, v) w := by kernel_rfl
set_option maxRecDepth 100000 in
set_option maxHeartbeats 4000000 in
theorem replace_calls (b g cap base : Nat) (w : World) (s : ByteArray) (x : Value) (hsz : s.size ≤ 1048576) (hbb : base ≤ b) (hbw : base ≤ w.heap.size) (hblk : w.heap[b]? = some (.cells #[.int .u32 0, .int .i32 0, x, .nilIface, .slice (some ⟨g, 0, none⟩) 4 cap] 45 (0, 0))) (hgb : g ≠ b)
    (hg : g < w.heap.size) (hs0 : w.cell? ⟨g, 0, none⟩ = some (.string (⟨#[43]⟩ : ByteArray))) (hs1 : w.cell? ⟨g, 1, none⟩ = some (.string (⟨#[45]⟩ : ByteArray))) (hs2 : w.cell? ⟨g, 2, none⟩ = some (.string (⟨#[45]⟩ : ByteArray))) (hs3 : w.cell? ⟨g, 3, none⟩ = some (.string (⟨#[43]⟩ : ByteArray))) :
    Calls Try.prog 9 #[.pointer (some ⟨b, 0, none⟩), .string s] w fun e w' => e = .returned (.string (strOfNums ((bytesOf s).map turned))) ∧ Below base w w' := by
  have hfar : ∀ (i : Nat) (v : Value), w.cell? ⟨g, i, none⟩ = some v → (w.setCell ⟨b, 1, none⟩ (.int .i32 1)).cell? ⟨g, i, none⟩ = some v := fun i v h => (World.cell?_setCell_other (w := w) (a := ⟨b, 1, none⟩) (b := ⟨g, i, none⟩) (h := fun c => hgb (congrArg Addr.block c).symm) (v := .int .i32 1)).trans h
  have hsize : (w.setCell ⟨b, 1, none⟩ (.int .i32 1)).heap.size = w.heap.size := by simp [World.setCell]
  have HD := Aside0.mk (do_calls b base hbb w x _ _ hblk (buildOnce_calls b g cap base w (w.setCell ⟨b, 1, none⟩ (.int .i32 1)) x hbb (by rw [hsize]; exact blk_lt hblk) (below_set_ (Below.refl _ w) hbb 1 _) (blk_put hblk 1 _ rfl) (by rw [hsize]; exact hg) (hfar 0 _ hs0) (hfar 1 _ hs1) (hfar 2 _ hs2) (hfar 3 _ hs3)))
  have HBW := Aside0.mk hbw
  have hm := method_replace
  clear hfar hsize hblk hgb hg hs0 hs1 hs2 hs3 hbb hbw
  go_enter Try.func9, Try.ntmps9
  go_wp2_with (first | (go_at_call 14; refine HD.out.mono ?_; rintro e w1 ⟨rfl, T, h3, hR, hB⟩; have HR := Aside0.mk hR; have HB := Aside0.mk hB; clear hR hB) | (go_at_call 85; refine (byteRep_calls T s _ hsz HR.out).mono ?_; rintro e w2 ⟨rfl, hB2⟩; have HB2 := Aside0.mk hB2; clear hB2))
  go_ret
  exact ⟨rfl, HB.out.trans (HB2.out.mono (Nat.le_trans HBW.out HB.out.size))⟩

end Go.Proofs.Ytalcjjiahocpmaa.Rep
