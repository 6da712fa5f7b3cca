/- What the plates' texts share: when a scheme is right, told in plain Lean; and the library's functions that they call, over the shelf's contracts, where the library's variable MaxLen holds some number. -/
import Derived.Test.YtmplmfoacnnieaaDoorShelf
import Derived.Below
import Derived.Tactics
import Derived.Tactics2
import Derived.WalkKit
import Derived.Test.YtmplmfoacnnieaaDoorWWords
import Derived.Test.YtmplmfoacnnieaaDoorWLast
import Derived.Test.YtmplmfoacnnieaaDoorWMore
set_option linter.unusedSimpArgs false
namespace Go.Proofs.YtmplmfoacnnieaaDoor
open Go.RowKit Go.Proofs.YtmplmfoacnnieaaDoorW.PrintWords Go.Proofs.YtmplmfoacnnieaaDoorW.PrintLast Go.Proofs.YtmplmfoacnnieaaDoorW.PrintMore
/-- internal/bytealg.MaxLen holds some whole number. -/
def EnvT (w : World) : Prop := ∃ m, w.cell? ⟨0, 0, none⟩ = some (.int .i64 m)
theorem env_below {w w' : World} (h : EnvT w) (hb : Below w.heap.size w w') : EnvT w' := by
  obtain ⟨m, hm⟩ := h
  exact ⟨m, (hb.cell (World.block_lt_of_cell? w _ hm)).trans hm⟩
/-- The cells of a row of strings, as the library's contracts ask them. -/
theorem kdC_cells {w : World} {A : Option Addr} {l : List ByteArray} (h : Kd.C Kd.string w A l.length l) (hn : 0 < l.length) : ∃ b off, A = some ⟨b, off, none⟩ ∧ ∀ j (hj : j < l.length), w.cell? ⟨b, off + j, none⟩ = some (.string l[j]) := by
  obtain ⟨ad, rfl, hc⟩ := h.2.2 hn
  have key : ∀ j (hj : j < l.length), w.cell? (ad.add j) = some (.string l[j]) := fun j hj => by
    obtain ⟨c, hs, hr, hcell⟩ := hc j l[j] (List.getElem?_eq_getElem hj)
    have hcs : c = [.string l[j]] := hr
    subst hcs
    have := hcell 0 (.string l[j]) rfl
    simpa [Kd.string, Kd.scalar] using this
  obtain ⟨b, off, spot⟩ := ad
  have hspot : spot = none := by simpa [Addr.add] using World.cell?_spot (key 0 hn)
  subst hspot
  refine ⟨b, off, rfl, fun j hj => ?_⟩
  have h1 := key j hj
  by_cases j0 : j = 0
  · subst j0
    simpa [Addr.add] using h1
  · simpa [Addr.add, j0] using h1
def sgnB (c : Int) : Bool := (decide (65 ≤ c) && decide (c ≤ 90)) || (decide (48 ≤ c) && decide (c ≤ 57))
def allS (s : ByteArray) : Nat → Nat → Bool
  | 0, _ => true
  | d + 1, i => sgnB (bt s i) && allS s d (i + 1)
def signsB (s : ByteArray) (lo hi : Int) : Bool := decide (lo ≤ s.size) && decide ((s.size : Int) ≤ hi) && allS s s.size 0
/-- Each byte is greater than the one ahead of it, from place i on, d places. -/
def risesL : Nat → ByteArray → Int → Bool
  | 0, _, _ => true
  | d + 1, s, i => if bt s i ≤ bt s (i - 1) then false else risesL d s (i + 1)
def trimZ (p : ByteArray) : ByteArray := ⟨(Lib.trimS p.data.toList [76, 68]).toArray⟩
def trimT (p : ByteArray) : Bool := (trimZ p).toList == ([] : List UInt8)
def isSchT (p b : ByteArray) (ws : List ByteArray) : Bool := risesL (b.size - 1) b 1 && ((decide (1 ≤ (p.size : Int)) && decide ((p.size : Int) ≤ 8)) && (trimT p && (signsB b 0 36 && (decide (ws.length ≤ 3) && !(ws.any fun x => !signsB x 1 4)))))
def smallS (p b : ByteArray) (ws : List ByteArray) : Bool := decide (p.size ≤ 1048576) && decide (b.size ≤ 1048576) && decide (ws.length ≤ 1048576) && ws.all fun x => decide (x.size ≤ 1048576)
/-! the library's functions, as the printed texts call them -/
def strings_Contains.f (a0 a1 : ByteArray) : Option Bool := if a0.size < 4294967281 then some (Lib.contains a0.data.toList a1.data.toList) else none
theorem strings_Contains.calls (a0 a1 : ByteArray) (r : Bool) (w : World) (h : strings_Contains.f a0 a1 = some r) (henv : EnvT w) :
    Calls Tryd.prog 81 #[.string a0, .string a1] w fun e w' => e = .returned (.bool r) ∧ Drawn0 w w' := by
  unfold strings_Contains.f at h
  by_cases c : a0.size < 4294967281
  case neg => rw [if_neg c] at h; cases h
  rw [if_pos c] at h
  obtain rfl := Option.some.inj h
  obtain ⟨m, hm⟩ := henv
  exact (Tryd.strings_Contains a0 a1 m w c hm).mono fun e w' ⟨he, hw⟩ => ⟨he, hw ▸ Drawn0.refl w⟩
def strings_IndexByte.f (a0 : ByteArray) (a1 : Int) : Option Int := some (Lib.indexByte a0.data.toList a1.toNat.toUInt8)
theorem strings_IndexByte.calls (a0 : ByteArray) (a1 : Int) (r : Int) (w : World) (h : strings_IndexByte.f a0 a1 = some r) :
    Calls Tryd.prog 83 #[.string a0, .int .u8 a1] w fun e w' => e = .returned (.int .i64 r) ∧ Drawn0 w w' := by
  obtain rfl := Option.some.inj h
  exact (Tryd.strings_IndexByte a0 a1 w).mono fun e w' ⟨he, hw⟩ => ⟨he, hw ▸ Drawn0.refl w⟩
end Go.Proofs.YtmplmfoacnnieaaDoor
