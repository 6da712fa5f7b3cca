/- The library functions slices.Clone, strings.Cut and strings.Split, as the printed texts call them, where the library's variable MaxLen holds some number. -/
import Derived.Test.YtmplmfoacnnieaaDoorBase
import Derived.Below
import Derived.Tactics
import Derived.Tactics2
import Derived.WalkKit
import Derived.Test.YtmplmfoacnnieaaDoorWWords
import Derived.Test.YtmplmfoacnnieaaDoorWLast
import Derived.Test.YtmplmfoacnnieaaDoorWMore
set_option linter.unusedSimpArgs false
namespace Go.Proofs.YtmplmfoacnnieaaDoor
open Go.RowKit Go.Proofs.YtmplmfoacnnieaaDoorW.PrintWords Go.Proofs.YtmplmfoacnnieaaDoorW.PrintLast Go.Proofs.YtmplmfoacnnieaaDoorW.PrintMore
def slices_Clone_string_string.f (l0 : List ByteArray) : Option (List ByteArray) := if l0.length ≤ 1048576 then some l0 else none
theorem slices_Clone_string_string.calls (A0 : Option Addr) (c0 : Nat) (l0 : List ByteArray) (r : List ByteArray) (w : World) (hr0 : Kd.C Kd.string w A0 l0.length l0) (hc0 : l0.length ≤ c0) (h : slices_Clone_string_string.f l0 = some r) :
    Calls Tryd.prog 41 #[.slice A0 l0.length c0] w fun e w' => ∃ v0_ : Value, e = .returned (v0_) ∧ Kd.R Kd.string 9 w' w.heap.size (fun _ => True) v0_ r ∧ Below w.heap.size w w' := by
  unfold slices_Clone_string_string.f at h
  by_cases c : l0.length ≤ 1048576
  case neg => rw [if_neg c] at h; cases h
  rw [if_pos c] at h
  obtain rfl := Option.some.inj h
  rcases Nat.eq_zero_or_pos l0.length with h0 | h0
  · have : l0 = [] := List.length_eq_zero_iff.mp h0
    subst this
    cases A0 with
    | none => exact (Tryd.slices_Clone_string_nil 0 c0 w).mono fun e w' ⟨he, hw⟩ => ⟨_, he, Kd.R_nil _ _ _ _ _, hw ▸ Below.refl _ _⟩
    | some a =>
      refine (Tryd.slices_Clone_string_zero a c0 w).mono ?_
      rintro e w' ⟨v', he, hown, _, hb⟩
      exact ⟨v', he, Kd.R_of_own (enc := Value.string) (h1 := fun _ => rfl) (xs := []) hown (fun _ _ => trivial), hb⟩
  · obtain ⟨b, off, rfl, hc⟩ := kdC_cells hr0 h0
    refine (Tryd.slices_Clone_string b off l0.length c0 l0 w (Nat.le_refl _) (by omega) (fun j hj => by rw [hc j hj]; simp [List.getD_eq_getElem?_getD, List.getElem?_eq_getElem hj])).mono ?_
    rintro e w' ⟨v', he, hown, _, hb⟩
    rw [List.take_length] at hown
    exact ⟨v', he, Kd.R_of_own (enc := Value.string) (h1 := fun _ => rfl) hown (fun _ _ => trivial), hb⟩
def strings_Cut.f (a0 a1 : ByteArray) : Option (ByteArray × ByteArray × Bool) := if a0.size < 4294967281 then some ((⟨(Lib.cut a0.data.toList a1.data.toList).1.toArray⟩ : ByteArray), (⟨(Lib.cut a0.data.toList a1.data.toList).2.1.toArray⟩ : ByteArray), (Lib.cut a0.data.toList a1.data.toList).2.2) else none
theorem strings_Cut.calls (a0 a1 : ByteArray) (r1 r2 : ByteArray) (r3 : Bool) (w : World) (h : strings_Cut.f a0 a1 = some (r1, r2, r3)) (henv : EnvT w) :
    Calls Tryd.prog 40 #[.string a0, .string a1] w fun e w' => e = .returned (.tuple #[.string r1, .string r2, .bool r3]) ∧ Drawn0 w w' := by
  unfold strings_Cut.f at h
  by_cases c : a0.size < 4294967281
  case neg => rw [if_neg c] at h; cases h
  rw [if_pos c] at h
  simp only [Option.some.injEq, Prod.mk.injEq] at h
  obtain ⟨rfl, rfl, rfl⟩ := h
  obtain ⟨m, hm⟩ := henv
  exact (Tryd.strings_Cut a0 a1 m w c hm).mono fun e w' ⟨he, hw⟩ => ⟨he, ⟨hw⟩⟩
def strings_Split.f (a0 a1 : ByteArray) : Option (List ByteArray) := if a0.size ≤ 1048576 ∧ 1 ≤ a1.size then some (Lib.splitB a1 0 (Lib.countB a0 a1) a0) else none
theorem strings_Split.calls (a0 a1 : ByteArray) (r : List ByteArray) (w : World) (h : strings_Split.f a0 a1 = some r) (henv : EnvT w) :
    Calls Tryd.prog 39 #[.string a0, .string a1] w fun e w' => ∃ v0_ : Value, e = .returned (v0_) ∧ Kd.R Kd.string 9 w' w.heap.size (fun _ => True) v0_ r ∧ Below w.heap.size w w' := by
  unfold strings_Split.f at h
  by_cases c : a0.size ≤ 1048576 ∧ 1 ≤ a1.size
  case neg => rw [if_neg c] at h; cases h
  rw [if_pos c] at h
  obtain rfl := Option.some.inj h
  obtain ⟨m, hm⟩ := henv
  have hlen := Lib.splitB_all a1 c.2 0 (Lib.countB a0 a1) a0 rfl
  have hcnt := Lib.countB_le a1 c.2 a0.size a0 (Nat.le_refl _)
  refine (Tryd.strings_Split a0 a1 m w (by omega) hm c.2).mono ?_
  rintro e w' ⟨rfl, rfl⟩
  refine ⟨_, rfl, Kd.R_of_own (enc := Value.string) (h1 := fun _ => rfl) ⟨by simp [encs], .inr ⟨w.heap.size, Lib.countB a0 a1 + 1, ((Lib.splitB a1 0 (Lib.countB a0 a1) a0).map Value.string).toArray, by rw [hlen], Nat.le_refl _, ?_, by rw [hlen]; exact Nat.le_refl _, by unfold maxLen; omega, by simp [hlen], ?_⟩⟩ (fun _ _ => trivial), (Below.refl _ _).alloc (Nat.le_refl _) _⟩
  · show (w.heap.push _)[w.heap.size]? = _
    exact Array.getElem?_push_size
  · rw [List.take_of_length_le (by simp)]
    rfl
end Go.Proofs.YtmplmfoacnnieaaDoor
