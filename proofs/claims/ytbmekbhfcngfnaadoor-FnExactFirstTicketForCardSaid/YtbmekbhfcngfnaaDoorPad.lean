/- impl.padded, over the shelf's contracts of strconv.Itoa and strings.Repeat: what it returns, where the table of powers of ten is laid as the program lays it. -/
import Derived.Test.YtbmekbhfcngfnaaDoorShelf
import Derived.Below
import Derived.Tactics
import Derived.Tactics2
import Derived.WalkKit
import Derived.Test.YtbmekbhfcngfnaaDoorWWords
namespace Go.Proofs.YtbmekbhfcngfnaaDoor
open Go.RowKit Go.Proofs.YtbmekbhfcngfnaaDoorW.PrintWords
def EnvT (w : World) : Prop := Lib.TabIs Tryd.prog w "internal/strconv.uint64pow10" .u64 Lib.pow10Tab
theorem tabIs_below_ {P : Program} {n : String} {g : Nat} {k : IntKind} {zs : List Int} {w w' : World} (hg : P.globalNamed n = some g) (h : Lib.TabIs P w n k zs) (hb : Below w.heap.size w w') : Lib.TabIs P w' n k zs := by
  unfold Lib.TabIs World.var? at h ⊢
  rw [hg] at h ⊢
  simp only [Option.bind_some] at h ⊢
  have hlt : g < w.heap.size := by
    rcases Nat.lt_or_ge g w.heap.size with h' | h'
    · exact h'
    · rw [Array.getElem?_eq_none h'] at h; cases h
  rw [hb.block g hlt]
  exact h
theorem env_below {w w' : World} (h : EnvT w) (hb : Below w.heap.size w w') : EnvT w' := by
  cases hg : Tryd.prog.globalNamed "internal/strconv.uint64pow10" with
  | none =>
    unfold EnvT Lib.TabIs World.var? at h
    rw [hg] at h
    cases h
  | some g => exact tabIs_below_ hg h hb
def itT (n : Int) : ByteArray := ⟨(Lib.itoa n).toArray⟩
def padT (n : Int) (k : Nat) : ByteArray := ⟨(Lib.repeatL [48] k).toArray⟩ ++ itT n
theorem grow_below_ {w : World} (k : Nat) (os : Array Obj) : Below w.heap.size w (Go.Sort.grow (w.drewN k) os) := ⟨rfl, rfl, rfl, by simp [Go.Sort.grow, World.drewN], fun i hi => by simp [Go.Sort.grow, World.drewN, Array.getElem?_append, hi]⟩
set_option maxHeartbeats 4000000 in
set_option maxRecDepth 100000 in
theorem padded_calls (n d : Int) (h0 : 0 ≤ n) (h1 : n ≤ 1000000000000) (k : Nat) (hk : k ≤ 1000) (hd : max 0 (wrap64 (d - ((Lib.itoa n).length : Int))) = (k : Int)) (hsz : (Lib.itoa n).length ≤ 1000) (w : World) (henv : EnvT w) :
    Calls Tryd.prog 13 #[.int .i64 n, .int .i64 d] w fun e w' => e = .returned (.string (padT n k)) ∧ Below w.heap.size w w' := by
  have hc := Tryd.strconv_Itoa n (by omega) (by omega) w henv
  have HC := Aside0.mk hc
  have hsum : (Lib.repeatL [48] k).length + (Lib.itoa n).length ≤ 9223372036854775807 := by rw [Lib.repeatL_length]; simp; omega
  have HR := Aside0.mk (fun W : World => Tryd.strings_Repeat (⟨#[48]⟩ : ByteArray) k W (by omega) (by show 1 * k ≤ _; omega))
  clear hc henv hk
  go_enter Tryd.func13, Tryd.ntmps13
  go_wp2_with (first | (go_at_call 12; refine HC.out.mono ?_; rintro e w1 ⟨rfl, k1, os1, rfl⟩; have HB1 := Aside0.mk (grow_below_ (w := w) k1 os1)) | (go_at_call 21; (try rw [hd]); refine (HR.out _).mono ?_; rintro e w2 ⟨rfl, hb2⟩; have HB2 := Aside0.mk hb2; clear hb2) | (fail))
  go_ret
  exact ⟨rfl, below_then HB1.out HB1.out.size HB2.out⟩
end Go.Proofs.YtbmekbhfcngfnaaDoor
