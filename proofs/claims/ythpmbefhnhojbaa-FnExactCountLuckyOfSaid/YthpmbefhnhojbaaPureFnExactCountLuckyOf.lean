/- For all numbers the program's CountLuckyOf and the reference's answer alike: the plain law, without conditions. -/
import Derived.Test.YthpmbefhnhojbaaPFnExactCountLuckyOfx2
set_option linter.unusedVariables false
set_option linter.unusedSimpArgs false
namespace Go.Proofs.Ythpmbefhnhojbaa.Pure
open Go.RowKit Go.Proofs.Ythpmbefhnhojbaa.PFnExactCountLuckyOf Go.Proofs.YthpmbefhnhojbaaW.PrintWords Go.Proofs.YthpmbefhnhojbaaW.PrintLast Go.Proofs.YthpmbefhnhojbaaW.PrintMore

theorem wrap_id {x : Int} (h0 : -9223372036854775808 ≤ x) (h1 : x < 9223372036854775808) : wrap64 x = x := by
  unfold wrap64
  omega
theorem lit_wf {x : Int} (h : (Lit.int .i64 x).wf = true) : -9223372036854775808 ≤ x ∧ x < 9223372036854775808 := by
  have h2 := h
  simp [Lit.wf, IntKind.min, IntKind.max, IntKind.bits, IntKind.signed] at h2
  omega

def sizeB (n : Int) : Bool := decide (2 ≤ n) && decide (n ≤ 12) && (Int.tmod n 2 == 0)
theorem sizeB_half {n : Int} (h : sizeB n = true) : ∃ m : Nat, 1 ≤ m ∧ m < 7 ∧ n = 2 * (m : Int) ∧ wrap64 (Int.tdiv n 2) = (m : Int) := by
  simp [sizeB] at h
  obtain ⟨⟨h1, h2⟩, h3⟩ := h
  rw [Int.tmod_eq_emod_of_nonneg (by omega)] at h3
  refine ⟨(n / 2).toNat, by omega, by omega, by omega, ?_⟩
  rw [Int.tdiv_eq_ediv_of_nonneg (by omega)]
  unfold wrap64
  omega
theorem spec_sizeB (n : Int) : spec_tkSize.f n = some (sizeB n) := by
  unfold spec_tkSize.f spec_l1In.f sizeB
  by_cases h1 : n ≥ 2
  · rw [if_pos h1]; simp only [Option.bind_some]
    by_cases h2 : n ≤ 12 <;> simp [h1, h2]
  · rw [if_neg h1]; simp; omega
theorem impl_sizeB (n : Int) : impl_isSize.f n = some (sizeB n) := by
  unfold impl_isSize.f impl_within.f sizeB
  by_cases h1 : 2 ≤ n
  · rw [if_pos h1]; simp only [Option.bind_some]
    by_cases h2 : n ≤ 12 <;> simp [h1, h2]
  · rw [if_neg h1]; simp; omega

def W : Nat → List Int
  | 0 => [1]
  | 1 => [1, 1, 1, 1, 1, 1, 1, 1, 1, 1]
  | 2 => [1, 2, 3, 4, 5, 6, 7, 8, 9, 10, 9, 8, 7, 6, 5, 4, 3, 2, 1]
  | 3 => [1, 3, 6, 10, 15, 21, 28, 36, 45, 55, 63, 69, 73, 75, 75, 73, 69, 63, 55, 45, 36, 28, 21, 15, 10, 6, 3, 1]
  | 4 => [1, 4, 10, 20, 35, 56, 84, 120, 165, 220, 282, 348, 415, 480, 540, 592, 633, 660, 670, 660, 633, 592, 540, 480, 415, 348, 282, 220, 165, 120, 84, 56, 35, 20, 10, 4, 1]
  | 5 => [1, 5, 15, 35, 70, 126, 210, 330, 495, 715, 996, 1340, 1745, 2205, 2710, 3246, 3795, 4335, 4840, 5280, 5631, 5875, 6000, 6000, 5875, 5631, 5280, 4840, 4335, 3795, 3246, 2710, 2205, 1745, 1340, 996, 715, 495, 330, 210, 126, 70, 35, 15, 5, 1]
  | 6 => [1, 6, 21, 56, 126, 252, 462, 792, 1287, 2002, 2997, 4332, 6062, 8232, 10872, 13992, 17577, 21582, 25927, 30492, 35127, 39662, 43917, 47712, 50877, 53262, 54747, 55252, 54747, 53262, 50877, 47712, 43917, 39662, 35127, 30492, 25927, 21582, 17577, 13992, 10872, 8232, 6062, 4332, 2997, 2002, 1287, 792, 462, 252, 126, 56, 21, 6, 1]
  | _ => []
set_option maxRecDepth 100000 in
theorem spec_ways_2000 : ∀ m : Nat, m < 7 → spec_tkWays.f 2000 (m : Int) = some (W m) := by decide +kernel
set_option maxRecDepth 100000 in
theorem impl_ways_2000 : ∀ m : Nat, m < 7 → impl_ways.f 2000 (m : Int) = some (W m) := by decide +kernel
theorem spec_ways (m : Nat) (hm : m < 7) (k : Nat) (hk : 2000 ≤ k) : spec_tkWays.f k (m : Int) = some (W m) :=
  at_rounds (g := fun k => spec_tkWays.f k (m : Int)) (fun k => spec_tkWays.mono _ k) hk (spec_ways_2000 m hm)
theorem impl_ways_eq (m : Nat) (hm : m < 7) (k : Nat) (hk : 2000 ≤ k) : impl_ways.f k (m : Int) = some (W m) :=
  at_rounds (g := fun k => impl_ways.f k (m : Int)) (fun k => impl_ways.mono _ k) hk (impl_ways_2000 m hm)
theorem W_len : ∀ m : Nat, m < 7 → 1 ≤ (W m).length ∧ (W m).length ≤ 55 := by decide +kernel

def atP (l : List Int) (i : Int) : Int := if 0 ≤ i ∧ i < (l.length : Int) then rd l i else 0
theorem spec_of (l : List Int) (i : Int) : spec_tkOf.f l i = some (atP l i) := by
  unfold spec_tkOf.f atP
  by_cases h1 : i < 0
  · rw [if_pos h1, if_neg (by omega)]
  · rw [if_neg h1]
    by_cases h2 : i ≥ (l.length : Int)
    · rw [if_pos h2, if_neg (by omega)]
    · rw [if_neg h2, if_pos (by omega), if_pos (by omega), if_pos (by omega)]
theorem impl_at_eq (l : List Int) (i : Int) (hl : l.length ≤ 1048576) : impl_at.f l i = some (atP l i) := by
  unfold impl_at.f atP impl_within.f
  rw [wrap_id (x := (l.length : Int) - 1) (by omega) (by omega)]
  by_cases h1 : 0 ≤ i
  · rw [if_pos h1]; simp only [Option.bind_some]
    by_cases h2 : i ≤ (l.length : Int) - 1
    · rw [if_pos (by simpa using h2), if_pos h1, if_pos (by omega), if_pos (by omega)]
    · rw [if_neg (by simpa using h2), if_neg (by omega)]
  · rw [if_neg h1]; simp only [Option.bind_some]
    rw [if_neg (by simp), if_neg (by omega)]

theorem FnExactCountLuckyOf : laws_FnExactCountLuckyOf.Pure := by
  intro a0 a1 _ _
  refine ⟨2001, ?_⟩
  unfold laws_FnExactCountLuckyOf.f spec_CountLuckyOf.f impl_CountLuckyOf.f impl_CountTickets.f
  rw [spec_sizeB, impl_sizeB]; simp only [Option.bind_some]
  by_cases g : sizeB a0 = true
  · obtain ⟨m, hm1, hm2, _, hw⟩ := sizeB_half g
    have hl := W_len m hm2
    rw [if_pos g, if_pos g]
    by_cases h1 : a1 < 0
    · rw [if_pos h1]
      simp [spec_CountLuckyOf.j0, impl_CountTickets.j0, h1]
    · rw [if_neg h1]
      simp only [spec_CountLuckyOf.j0, impl_CountTickets.j0, h1, decide_false]
      rw [if_neg (by simp), if_neg (by simp), hw, spec_ways m hm2 _ (by omega), impl_ways_eq m hm2 _ (by omega)]
      simp only [Option.bind_some]
      rw [spec_of, impl_at_eq _ _ (by omega)]
      simp
  · rw [if_neg g, if_neg g]
    simp [spec_CountLuckyOf.j0, impl_CountTickets.j0]

end Go.Proofs.Ythpmbefhnhojbaa.Pure
