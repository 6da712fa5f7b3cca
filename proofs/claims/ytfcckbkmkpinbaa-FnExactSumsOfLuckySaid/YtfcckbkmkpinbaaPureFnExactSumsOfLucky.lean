/- For all numbers the program's SumsOfLucky and the reference's answer alike: the plain law, without conditions. -/
import Derived.Test.YtfcckbkmkpinbaaPFnExactSumsOfLuckyx2
set_option linter.unusedVariables false
set_option linter.unusedSimpArgs false
namespace Go.Proofs.Ytfcckbkmkpinbaa.Pure
open Go.RowKit Go.Proofs.Ytfcckbkmkpinbaa.PFnExactSumsOfLucky Go.Proofs.YtfcckbkmkpinbaaW.PrintWords Go.Proofs.YtfcckbkmkpinbaaW.PrintLast Go.Proofs.YtfcckbkmkpinbaaW.PrintMore

theorem wrap_id {x : Int} (h0 : -9223372036854775808 ≤ x) (h1 : x < 9223372036854775808) : wrap64 x = x := by
  unfold wrap64
  omega
theorem lit_wf {x : Int} (h : (Lit.int .i64 x).wf = true) : -9223372036854775808 ≤ x ∧ x < 9223372036854775808 := by
  have h2 := h
  simp [Lit.wf, IntKind.min, IntKind.max, IntKind.bits, IntKind.signed] at h2
  omega
theorem wrap_add (x y : Int) : wrap64 (wrap64 x + y) = wrap64 (x + y) := by
  have e : ∀ (m c : Int), ((x + c) % m - c + y + c) % m = (x + y + c) % m := fun m c => by
    have h1 : (x + c) % m - c + y + c = (x + c) % m + y := by generalize (x + c) % m = q; omega
    rw [h1, Int.emod_add_emod, show x + c + y = x + y + c by omega]
  unfold wrap64
  rw [e]
theorem wrap_sub (x y : Int) : wrap64 (wrap64 x - y) = wrap64 (x - y) := by
  rw [Int.sub_eq_add_neg, wrap_add, Int.sub_eq_add_neg]

def sizeB (n : Int) : Bool := decide (2 ≤ n) && decide (n ≤ 12) && (Int.tmod n 2 == 0)
theorem sizeB_half {n : Int} (h : sizeB n = true) : ∃ m : Nat, 1 ≤ m ∧ m < 7 ∧ n = 2 * (m : Int) ∧ wrap64 (Int.tdiv n 2) = (m : Int) := by
  simp [sizeB] at h
  obtain ⟨⟨h1, h2⟩, h3⟩ := h
  rw [Int.tmod_eq_emod_of_nonneg (by omega)] at h3
  refine ⟨(n / 2).toNat, by omega, by omega, by omega, ?_⟩
  rw [Int.tdiv_eq_ediv_of_nonneg (by omega)]
  unfold wrap64
  omega
theorem spec_sizeB (n : Int) : spec_tkSize.f n = some (sizeB n) := by
  unfold spec_tkSize.f spec_l1In.f sizeB
  by_cases h1 : n ≥ 2
  · rw [if_pos h1]; simp only [Option.bind_some]
    by_cases h2 : n ≤ 12 <;> simp [h1, h2]
  · rw [if_neg h1]; simp; omega
theorem impl_sizeB (n : Int) : impl_isSize.f n = some (sizeB n) := by
  unfold impl_isSize.f impl_within.f sizeB
  by_cases h1 : 2 ≤ n
  · rw [if_pos h1]; simp only [Option.bind_some]
    by_cases h2 : n ≤ 12 <;> simp [h1, h2]
  · rw [if_neg h1]; simp; omega

def W : Nat → List Int
  | 0 => [1]
  | 1 => [1, 1, 1, 1, 1, 1, 1, 1, 1, 1]
  | 2 => [1, 2, 3, 4, 5, 6, 7, 8, 9, 10, 9, 8, 7, 6, 5, 4, 3, 2, 1]
  | 3 => [1, 3, 6, 10, 15, 21, 28, 36, 45, 55, 63, 69, 73, 75, 75, 73, 69, 63, 55, 45, 36, 28, 21, 15, 10, 6, 3, 1]
  | 4 => [1, 4, 10, 20, 35, 56, 84, 120, 165, 220, 282, 348, 415, 480, 540, 592, 633, 660, 670, 660, 633, 592, 540, 480, 415, 348, 282, 220, 165, 120, 84, 56, 35, 20, 10, 4, 1]
  | 5 => [1, 5, 15, 35, 70, 126, 210, 330, 495, 715, 996, 1340, 1745, 2205, 2710, 3246, 3795, 4335, 4840, 5280, 5631, 5875, 6000, 6000, 5875, 5631, 5280, 4840, 4335, 3795, 3246, 2710, 2205, 1745, 1340, 996, 715, 495, 330, 210, 126, 70, 35, 15, 5, 1]
  | 6 => [1, 6, 21, 56, 126, 252, 462, 792, 1287, 2002, 2997, 4332, 6062, 8232, 10872, 13992, 17577, 21582, 25927, 30492, 35127, 39662, 43917, 47712, 50877, 53262, 54747, 55252, 54747, 53262, 50877, 47712, 43917, 39662, 35127, 30492, 25927, 21582, 17577, 13992, 10872, 8232, 6062, 4332, 2997, 2002, 1287, 792, 462, 252, 126, 56, 21, 6, 1]
  | _ => []
set_option maxRecDepth 100000 in
theorem spec_ways_2000 : ∀ m : Nat, m < 7 → spec_tkWays.f 2000 (m : Int) = some (W m) := by decide +kernel
set_option maxRecDepth 100000 in
theorem impl_ways_2000 : ∀ m : Nat, m < 7 → impl_ways.f 2000 (m : Int) = some (W m) := by decide +kernel
theorem spec_ways (m : Nat) (hm : m < 7) (k : Nat) (hk : 2000 ≤ k) : spec_tkWays.f k (m : Int) = some (W m) :=
  at_rounds (g := fun k => spec_tkWays.f k (m : Int)) (fun k => spec_tkWays.mono _ k) hk (spec_ways_2000 m hm)
theorem impl_ways_eq (m : Nat) (hm : m < 7) (k : Nat) (hk : 2000 ≤ k) : impl_ways.f k (m : Int) = some (W m) :=
  at_rounds (g := fun k => impl_ways.f k (m : Int)) (fun k => impl_ways.mono _ k) hk (impl_ways_2000 m hm)
theorem W_len : ∀ m : Nat, m < 7 → 1 ≤ (W m).length ∧ (W m).length ≤ 55 := by decide +kernel

def upL : Nat → Int → List Int
  | 0, _ => []
  | n + 1, s => s :: upL n (s + 1)
theorem upL_len : ∀ (n : Nat) (s : Int), (upL n s).length = n
  | 0, _ => rfl
  | n + 1, s => by simp [upL, upL_len n]
theorem eqInt_l0 (l : List Int) (hl : l.length ≤ 1048576) : ∀ (d i k : Nat), i + d = l.length → d < k → laws_eqIntS.l0 k l l i = some true
  | 0, i, k, e, hk => by
    obtain ⟨k, rfl⟩ : ∃ m, k = m + 1 := ⟨k - 1, by omega⟩
    simp only [laws_eqIntS.l0]
    rw [if_neg (by omega)]
  | d + 1, i, k, e, hk => by
    obtain ⟨k, rfl⟩ : ∃ m, k = m + 1 := ⟨k - 1, by omega⟩
    simp only [laws_eqIntS.l0]
    rw [if_pos (by omega), if_pos (by omega), if_pos (by omega), if_true, wrap_id (by omega) (by omega)]
    exact eqInt_l0 l hl d (i + 1) k (by omega) (by omega)
theorem eqInt_self (l : List Int) (hl : l.length ≤ 1048576) (k : Nat) (hk : l.length < k) : laws_eqIntS.f k l l = some true := by
  unfold laws_eqIntS.f
  rw [if_pos rfl]
  exact eqInt_l0 l hl l.length 0 k (by omega) hk
theorem markInt_l0 : ∀ (rest pre : List Int) (s : Int) (k : Nat), pre.length + rest.length ≤ 1048576 → 0 ≤ s → s + rest.length ≤ 4000000 → rest.length < k →
    laws_markIntS.l0 k (pre ++ rest) s pre.length = some (s + rest.length, pre ++ upL rest.length s)
  | [], pre, s, k, _, _, _, hk => by
    obtain ⟨k, rfl⟩ : ∃ m, k = m + 1 := ⟨k - 1, by omega⟩
    simp only [laws_markIntS.l0]
    rw [if_neg (by simp)]
    simp [upL]
  | c :: rest, pre, s, k, h1, h2, h3, hk => by
    obtain ⟨k, rfl⟩ : ∃ m, k = m + 1 := ⟨k - 1, by omega⟩
    simp only [List.length_cons] at h1 h3 hk
    simp only [laws_markIntS.l0]
    rw [if_pos (by simp; omega), if_pos (by omega), wrap_id (by omega) (by omega), wrap_id (by omega) (by omega)]
    have e : (pre ++ c :: rest).set ((pre.length : Int)).toNat s = (pre ++ [s]) ++ rest := by
      rw [Int.toNat_natCast, List.set_append_right _ _ (Nat.le_refl _)]
      simp
    have := markInt_l0 rest (pre ++ [s]) (s + 1) k (by simp; omega) (by omega) (by omega) (by omega)
    rw [e]
    simp only [List.length_append, List.length_cons, List.length_nil] at this ⊢
    rw [show ((pre.length : Int) + 1) = ((pre.length + (0 + 1) : Nat) : Int) by omega, this]
    simp [upL]
    omega
theorem markInt (l : List Int) (hl : l.length ≤ 1048576) (k : Nat) (hk : l.length < k) : laws_markIntS.f k l 1 = some (1 + (l.length : Int), upL l.length 1) := by
  unfold laws_markIntS.f
  exact markInt_l0 l [] 1 k (by simpa using hl) (by omega) (by omega) hk
theorem heldInt_l0 : ∀ (n : Nat) (pre : List Int) (s : Int) (k : Nat), pre.length + n ≤ 1048576 → 0 ≤ s → s + n ≤ 4000000 → n < k →
    laws_heldIntS.l0 k (pre ++ upL n s) s pre.length = some (s + n)
  | 0, pre, s, k, _, _, _, hk => by
    obtain ⟨k, rfl⟩ : ∃ m, k = m + 1 := ⟨k - 1, by omega⟩
    simp only [laws_heldIntS.l0]
    rw [if_neg (by simp [upL])]
    simp
  | n + 1, pre, s, k, h1, h2, h3, hk => by
    obtain ⟨k, rfl⟩ : ∃ m, k = m + 1 := ⟨k - 1, by omega⟩
    simp only [laws_heldIntS.l0]
    have e : rd (pre ++ upL (n + 1) s) (pre.length : Int) = s := by simp [rd, upL]
    have e2 : (pre ++ upL (n + 1) s) = (pre ++ [s]) ++ upL n (s + 1) := by simp [upL]
    rw [if_pos (by simp [upL_len]; omega), if_pos (by omega), if_pos e, wrap_id (by omega) (by omega), wrap_id (by omega) (by omega), e2]
    have := heldInt_l0 n (pre ++ [s]) (s + 1) k (by simp; omega) (by omega) (by omega) (by omega)
    simp only [List.length_append, List.length_cons, List.length_nil] at this
    rw [show ((pre.length : Int) + 1) = ((pre.length + (0 + 1) : Nat) : Int) by omega, this]
    congr 1
    omega
theorem heldInt (n : Nat) (hn : n ≤ 1048576) (k : Nat) (hk : n < k) : laws_heldIntS.f k (upL n 1) 1 = some (1 + (n : Int)) := by
  unfold laws_heldIntS.f
  exact heldInt_l0 n [] 1 k (by simpa using hn) (by omega) (by omega) hk

def sqW (m : Nat) : List Int := sqSet (W m).length 0 (W m)
set_option maxRecDepth 100000 in
theorem spec_sq_2100 : ∀ m : Nat, m < 7 → 1 ≤ m → spec_SumsOfLucky.f 2100 (2 * (m : Int)) = some (sqW m, true) := by decide +kernel
theorem spec_sq (m : Nat) (h2 : m < 7) (h1 : 1 ≤ m) (k : Nat) (hk : 2100 ≤ k) : spec_SumsOfLucky.f k (2 * (m : Int)) = some (sqW m, true) :=
  at_rounds (g := fun k => spec_SumsOfLucky.f k (2 * (m : Int))) (fun k => spec_SumsOfLucky.mono _ k) hk (spec_sq_2100 m h2 h1)
theorem impl_sq (m : Nat) (h2 : m < 7) (h1 : 1 ≤ m) (g : sizeB (2 * (m : Int)) = true) (k : Nat) (hk : 2100 ≤ k) : impl_SumsOfLucky.f k (2 * (m : Int)) = some (sqW m, true) := by
  unfold impl_SumsOfLucky.f
  have hl := W_len m h2
  rw [impl_sizeB]; simp only [Option.bind_some]
  rw [if_pos g, show wrap64 (Int.tdiv (2 * (m : Int)) 2) = (m : Int) by rw [Int.tdiv_eq_ediv_of_nonneg (by omega)]; unfold wrap64; omega, impl_ways_eq m h2 k (by omega)]
  simp only [Option.bind_some]
  rw [if_pos ⟨by omega, by omega⟩]
  rfl
theorem sums_end (k : Nat) (hk : 2300 ≤ k) (a : Int) (l : List Int) (b : Bool) (hl : l.length ≤ 60) (hi : ∀ k, 2100 ≤ k → impl_SumsOfLucky.f k a = some (l, b)) : laws_FnExactSumsOfLucky.j0 k a l b l (b != b) = some true := by
  obtain ⟨k, rfl⟩ : ∃ m, k = m + 2 := ⟨k - 2, by omega⟩
  simp only [laws_FnExactSumsOfLucky.j0, bne_self_eq_false]
  rw [if_neg (by simp), markInt l (by omega) _ (by omega)]
  simp only [Option.bind_some]
  rw [heldInt _ (by omega) _ (by omega)]
  simp only [Option.bind_some]
  rw [if_neg (by omega)]
  simp only [if_true]
  rw [hi _ (by omega)]
  simp only [Option.bind_some]
  rw [eqInt_self l (by omega) _ (by omega)]
  simp only [Option.bind_some, if_true, bne_self_eq_false, laws_FnExactSumsOfLucky.j1]
  rw [if_neg (by simp), heldInt _ (by omega) _ (by omega)]
  simp only [Option.bind_some, if_true]
  rw [if_neg (by omega)]
theorem sqSet_len : ∀ (d i : Nat) (xs : List Int), (sqSet d i xs).length = xs.length
  | 0, _, _ => rfl
  | d + 1, i, xs => by simp [sqSet, sqSet_len d]
theorem FnExactSumsOfLucky : laws_FnExactSumsOfLucky.Pure := by
  intro a0 _
  refine ⟨2400, ?_⟩
  have key : ∃ l b, l.length ≤ 60 ∧ (∀ k, 2100 ≤ k → spec_SumsOfLucky.f k a0 = some (l, b)) ∧ (∀ k, 2100 ≤ k → impl_SumsOfLucky.f k a0 = some (l, b)) := by
    by_cases g : sizeB a0 = true
    · obtain ⟨m, hm1, hm2, rfl, hw⟩ := sizeB_half g
      have hl := W_len m hm2
      refine ⟨sqW m, true, ?_, fun k hk => spec_sq m hm2 hm1 k hk, fun k hk => impl_sq m hm2 hm1 g k hk⟩
      unfold sqW
      rw [sqSet_len]
      omega
    · refine ⟨[], false, by simp, fun k hk => ?_, fun k hk => ?_⟩
      · unfold spec_SumsOfLucky.f
        rw [spec_sizeB]; simp only [Option.bind_some]
        rw [if_neg g]
      · unfold impl_SumsOfLucky.f
        rw [impl_sizeB]; simp only [Option.bind_some]
        rw [if_neg g]
  obtain ⟨l, b, hl, S, I⟩ := key
  unfold laws_FnExactSumsOfLucky.f
  rw [S _ (by omega), I _ (by omega)]
  simp only [Option.bind_some]
  rw [eqInt_self _ (by omega) _ (by omega)]
  simp only [Option.bind_some, if_true]
  exact sums_end _ (by omega) _ _ _ hl I

end Go.Proofs.Ytfcckbkmkpinbaa.Pure
