/- For all numbers the program's FirstLuckyOf and the reference's answer alike: the plain law, without conditions. -/
import Derived.Test.YthpmbefhnhojbaaPFnExactFirstLuckyOfx2
set_option linter.unusedVariables false
set_option linter.unusedSimpArgs false
namespace Go.Proofs.Ythpmbefhnhojbaa.Pure
open Go.RowKit Go.Proofs.Ythpmbefhnhojbaa.PFnExactFirstLuckyOf Go.Proofs.YthpmbefhnhojbaaW.PrintWords Go.Proofs.YthpmbefhnhojbaaW.PrintLast Go.Proofs.YthpmbefhnhojbaaW.PrintMore

theorem wrap_id {x : Int} (h0 : -9223372036854775808 ≤ x) (h1 : x < 9223372036854775808) : wrap64 x = x := by
  unfold wrap64
  omega
theorem lit_wf {x : Int} (h : (Lit.int .i64 x).wf = true) : -9223372036854775808 ≤ x ∧ x < 9223372036854775808 := by
  have h2 := h
  simp [Lit.wf, IntKind.min, IntKind.max, IntKind.bits, IntKind.signed] at h2
  omega

def sizeB (n : Int) : Bool := decide (2 ≤ n) && decide (n ≤ 12) && (Int.tmod n 2 == 0)
theorem sizeB_half {n : Int} (h : sizeB n = true) : ∃ m : Nat, 1 ≤ m ∧ m < 7 ∧ n = 2 * (m : Int) ∧ wrap64 (Int.tdiv n 2) = (m : Int) := by
  simp [sizeB] at h
  obtain ⟨⟨h1, h2⟩, h3⟩ := h
  rw [Int.tmod_eq_emod_of_nonneg (by omega)] at h3
  refine ⟨(n / 2).toNat, by omega, by omega, by omega, ?_⟩
  rw [Int.tdiv_eq_ediv_of_nonneg (by omega)]
  unfold wrap64
  omega
theorem spec_sizeB (n : Int) : spec_tkSize.f n = some (sizeB n) := by
  unfold spec_tkSize.f spec_l1In.f sizeB
  by_cases h1 : n ≥ 2
  · rw [if_pos h1]; simp only [Option.bind_some]
    by_cases h2 : n ≤ 12 <;> simp [h1, h2]
  · rw [if_neg h1]; simp; omega
theorem impl_sizeB (n : Int) : impl_isSize.f n = some (sizeB n) := by
  unfold impl_isSize.f impl_within.f sizeB
  by_cases h1 : 2 ≤ n
  · rw [if_pos h1]; simp only [Option.bind_some]
    by_cases h2 : n ≤ 12 <;> simp [h1, h2]
  · rw [if_neg h1]; simp; omega

def dat (o : Option ByteArray) : Option (List UInt8) := o.map fun b => b.data.toList
theorem dat_inj {a b : Option ByteArray} (h : dat a = dat b) : a = b := by
  cases a <;> cases b <;> simp [dat] at h ⊢
  rename_i x y
  cases x; cases y; congr 1
set_option maxRecDepth 100000 in
theorem first_both : ∀ m : Nat, m < 7 → ∀ s : Nat, s < 9 * m + 1 → dat (spec_tkFirst.f 40 (m : Int) (s : Int)) = dat (impl_leastText.f 40 (m : Int) (s : Int)) ∧ (impl_leastText.f 40 (m : Int) (s : Int)).isSome = true ∧ ((dat (impl_leastText.f 40 (m : Int) (s : Int))).getD []).length ≤ 6 := by decide +kernel
theorem FnExactFirstLuckyOf : laws_FnExactFirstLuckyOf.Pure := by
  intro a0 a1 _ _
  refine ⟨41, ?_⟩
  unfold laws_FnExactFirstLuckyOf.f spec_FirstLuckyOf.f impl_FirstLuckyOf.f
  rw [spec_sizeB, impl_sizeB]; simp only [Option.bind_some]
  by_cases g : sizeB a0 = true
  · obtain ⟨m, hm1, hm2, hm3, hw⟩ := sizeB_half g
    rw [if_pos g, if_pos g]
    have e : wrap64 (Int.tdiv (wrap64 (9 * a0)) 2) = 9 * (m : Int) := by
      have e0 : wrap64 (9 * a0) = 18 * (m : Int) := by unfold wrap64; omega
      rw [e0, Int.tdiv_eq_ediv_of_nonneg (by omega)]
      unfold wrap64
      omega
    rw [e, hw]
    unfold spec_l1In.f impl_within.f
    by_cases h0 : 0 ≤ a1
    · rw [if_pos h0]; simp only [Option.bind_some]
      by_cases h1 : a1 ≤ 9 * (m : Int)
      · obtain ⟨s, rfl⟩ := Int.eq_ofNat_of_zero_le h0
        obtain ⟨b1, b2, b3⟩ := first_both m hm2 s (by omega)
        have b1' := dat_inj b1
        obtain ⟨r, hr⟩ := Option.isSome_iff_exists.mp b2
        have i41 : impl_leastText.f 41 (m : Int) (s : Int) = some r := impl_leastText.mono _ _ 40 r hr
        rw [hr] at b1'
        have hz : r.size ≤ 6 := by
          rw [hr] at b3
          simpa [dat] using b3
        simp only [spec_FirstLuckyOf.j0]
        rw [if_neg (by simp [h1]), hw, b1', if_pos (by simp [h1]), i41]
        simp only [Option.bind_some]
        rw [if_pos (by omega)]
        simp
      · simp only [spec_FirstLuckyOf.j0]
        rw [if_pos (by simp; omega), if_neg (by simp; omega)]
        simp
    · rw [if_neg h0]
      simp [spec_FirstLuckyOf.j0]
  · rw [if_neg g, if_neg g]
    simp [spec_FirstLuckyOf.j0]

end Go.Proofs.Ythpmbefhnhojbaa.Pure
