/- For every text the program's IsLucky and the reference's answer alike: the plain law, without conditions. -/
import Derived.Test.YthpmbefhnhojbaaPFnExactIsLuckyx2
set_option linter.unusedVariables false
set_option linter.unusedSimpArgs false
namespace Go.Proofs.Ythpmbefhnhojbaa.Pure
open Go.RowKit Go.Proofs.Ythpmbefhnhojbaa.PFnExactIsLucky Go.Proofs.YthpmbefhnhojbaaW.PrintWords Go.Proofs.YthpmbefhnhojbaaW.PrintLast Go.Proofs.YthpmbefhnhojbaaW.PrintMore

theorem wrap_id {x : Int} (h0 : -9223372036854775808 ≤ x) (h1 : x < 9223372036854775808) : wrap64 x = x := by
  unfold wrap64
  omega
theorem lit_wf {x : Int} (h : (Lit.int .i64 x).wf = true) : -9223372036854775808 ≤ x ∧ x < 9223372036854775808 := by
  have h2 := h
  simp [Lit.wf, IntKind.min, IntKind.max, IntKind.bits, IntKind.signed] at h2
  omega

def allFrom (s : ByteArray) : Nat → Nat → Bool
  | 0, _ => true
  | d + 1, i => if bt s i < 48 then false else if bt s i > 57 then false else allFrom s d (i + 1)
theorem allFrom_bt (s : ByteArray) : ∀ (d i : Nat), allFrom s d i = true → ∀ j : Nat, i ≤ j → j < i + d → 48 ≤ bt s j ∧ bt s j ≤ 57
  | 0, i, _, j, h1, h2 => by omega
  | d + 1, i, h, j, h1, h2 => by
    unfold allFrom at h
    by_cases c1 : bt s i < 48
    · rw [if_pos c1] at h; cases h
    · rw [if_neg c1] at h
      by_cases c2 : bt s i > 57
      · rw [if_pos c2] at h; cases h
      · rw [if_neg c2] at h
        by_cases e : j = i
        · subst e; omega
        · exact allFrom_bt s d (i + 1) h j (by omega) (by omega)
def good (s : ByteArray) : Bool := decide (2 ≤ s.size) && decide (s.size ≤ 12) && (s.size % 2 == 0) && allFrom s s.size 0
theorem good_size {s : ByteArray} (h : good s = true) : 2 ≤ s.size ∧ s.size ≤ 12 ∧ s.size % 2 = 0 := by
  simp [good] at h; omega
theorem good_bt {s : ByteArray} (h : good s = true) (j : Nat) (hj : j < s.size) : 48 ≤ bt s j ∧ bt s j ≤ 57 := by
  simp only [good, Bool.and_eq_true] at h
  exact allFrom_bt s s.size 0 h.2 j (by omega) (by omega)
theorem spec_size (n : Int) : spec_tkSize.f n = some (decide (2 ≤ n) && decide (n ≤ 12) && (Int.tmod n 2 == 0)) := by
  unfold spec_tkSize.f spec_l1In.f
  by_cases h1 : n ≥ 2
  · rw [if_pos h1]; simp only [Option.bind_some]
    by_cases h2 : n ≤ 12 <;> simp [h1, h2]
  · rw [if_neg h1]; simp; omega
theorem spec_good_l0 (s : ByteArray) (hn : s.size ≤ 1048576) : ∀ (d i k : Nat), i + d = s.size → d < k → spec_tkGood.l0 k s i = some (allFrom s d i)
  | 0, i, k, h, hk => by
    obtain ⟨k, rfl⟩ : ∃ m, k = m + 1 := ⟨k - 1, by omega⟩
    simp only [spec_tkGood.l0, allFrom]
    rw [if_neg (by omega)]
  | d + 1, i, k, h, hk => by
    obtain ⟨k, rfl⟩ : ∃ m, k = m + 1 := ⟨k - 1, by omega⟩
    simp only [spec_tkGood.l0, allFrom]
    rw [if_pos (by omega), if_pos (by omega)]
    by_cases c1 : bt s i < 48
    · rw [if_pos c1, if_pos c1]
    · rw [if_neg c1, if_neg c1]
      by_cases c2 : bt s i > 57
      · rw [if_pos c2, if_pos c2]
      · rw [if_neg c2, if_neg c2, wrap_id (by omega) (by omega)]
        exact spec_good_l0 s hn d (i + 1) k (by omega) (by omega)
theorem spec_good (s : ByteArray) (hn : s.size ≤ 1048576) (k : Nat) (hk : s.size < k) : spec_tkGood.f k s = some (good s) := by
  unfold spec_tkGood.f
  rw [spec_size]; simp only [Option.bind_some]
  have e : (Int.tmod (s.size : Int) 2 == 0) = (s.size % 2 == 0) := by
    rw [Bool.eq_iff_iff, beq_iff_eq, beq_iff_eq, Int.tmod_eq_emod_of_nonneg (by omega)]
    omega
  by_cases h1 : 2 ≤ s.size ∧ s.size ≤ 12 ∧ s.size % 2 = 0
  · rw [if_pos (by simp [e]; omega)]
    have := spec_good_l0 s hn s.size 0 k (by omega) hk
    rw [show ((0 : Nat) : Int) = 0 from rfl] at this
    rw [this]
    simp [good]; omega
  · rw [if_neg (by simp [e]; omega)]
    congr 1
    simp [good]
    omega
theorem impl_digits_l0 (s : ByteArray) (lo hi : Int) (hn : s.size ≤ 1048576) : ∀ (d i k : Nat), i + d = s.size → d < k →
    impl_areDigits.l0 k s lo hi s.size i = some (allFrom s d i && (decide (lo ≤ s.size) && decide ((s.size : Int) ≤ hi)))
  | 0, i, k, h, hk => by
    obtain ⟨k, rfl⟩ : ∃ m, k = m + 1 := ⟨k - 1, by omega⟩
    simp only [impl_areDigits.l0, allFrom]
    rw [if_neg (by omega)]
    unfold impl_within.f
    by_cases c : lo ≤ (s.size : Int)
    · rw [if_pos c]; simp [c]
    · rw [if_neg c]; simp [c]
  | d + 1, i, k, h, hk => by
    obtain ⟨k, rfl⟩ : ∃ m, k = m + 1 := ⟨k - 1, by omega⟩
    simp only [impl_areDigits.l0, allFrom]
    rw [if_pos (by omega), if_pos (by omega), if_pos (by omega)]
    by_cases c1 : bt s i < 48
    · rw [if_pos c1, if_pos c1]; rfl
    · rw [if_neg c1, if_neg c1]
      by_cases c2 : bt s i > 57
      · rw [if_pos c2, if_pos c2]; rfl
      · rw [if_neg c2, if_neg c2, wrap_id (by omega) (by omega)]
        exact impl_digits_l0 s lo hi hn d (i + 1) k (by omega) (by omega)
theorem impl_digits (s : ByteArray) (lo hi : Int) (hn : s.size ≤ 1048576) (k : Nat) (hk : s.size < k) :
    impl_areDigits.f k s lo hi = some (allFrom s s.size 0 && (decide (lo ≤ s.size) && decide ((s.size : Int) ≤ hi))) := by
  unfold impl_areDigits.f
  exact impl_digits_l0 s lo hi hn s.size 0 k (by omega) hk
theorem impl_good (s : ByteArray) (hn : s.size ≤ 1048576) (k : Nat) (hk : s.size < k) : impl_IsTicket.f k s = some (good s) := by
  unfold impl_IsTicket.f
  rw [impl_digits s 2 12 hn k hk]; simp only [Option.bind_some]
  by_cases h : allFrom s s.size 0 = true ∧ 2 ≤ s.size ∧ s.size ≤ 12
  · rw [if_pos (by simp [h.1]; omega)]
    congr 1
    simp only [good, h.1, h.2.1, h.2.2, decide_true, Bool.true_and, Bool.and_true]
    rw [Bool.eq_iff_iff, beq_iff_eq, beq_iff_eq]; omega
  · rw [if_neg (by simp; intro a b; exact Int.not_le.mp fun c => h ⟨a, by omega, by omega⟩)]
    congr 1
    symm
    rw [← Bool.not_eq_true]
    intro g
    have := good_size g
    simp only [good, Bool.and_eq_true] at g
    exact h ⟨g.2, this.1, this.2.1⟩

def sumL (s : ByteArray) : Nat → Nat → Int → Int
  | 0, _, acc => acc
  | d + 1, i, acc => sumL s d (i + 1) (wrap64 (acc + ((bt s i - 48) % 256)))
def dsum (s : ByteArray) : Int := sumL s s.size 0 0
theorem spec_sum_l0 (s : ByteArray) (hn : s.size ≤ 1048576) : ∀ (d i k : Nat) (acc : Int), i + d = s.size → d < k → spec_tkSum.l0 k s acc i = some (sumL s d i acc)
  | 0, i, k, acc, h, hk => by
    obtain ⟨k, rfl⟩ : ∃ m, k = m + 1 := ⟨k - 1, by omega⟩
    simp only [spec_tkSum.l0, sumL]
    rw [if_neg (by omega)]
  | d + 1, i, k, acc, h, hk => by
    obtain ⟨k, rfl⟩ : ∃ m, k = m + 1 := ⟨k - 1, by omega⟩
    simp only [spec_tkSum.l0, sumL]
    rw [if_pos (by omega), if_pos (by omega), wrap_id (x := (i : Int) + 1) (by omega) (by omega)]
    exact spec_sum_l0 s hn d (i + 1) k _ (by omega) (by omega)
theorem spec_sum (s : ByteArray) (hn : s.size ≤ 1048576) (k : Nat) (hk : s.size < k) : spec_tkSum.f k s = some (dsum s) := by
  unfold spec_tkSum.f
  exact spec_sum_l0 s hn s.size 0 k 0 (by omega) hk
theorem impl_sum_l0 (s : ByteArray) (hn : s.size ≤ 1048576) : ∀ (d i k : Nat) (acc : Int), i + d = s.size → d < k → impl_sumOf.l0 k s acc s.size i = some (sumL s d i acc)
  | 0, i, k, acc, h, hk => by
    obtain ⟨k, rfl⟩ : ∃ m, k = m + 1 := ⟨k - 1, by omega⟩
    simp only [impl_sumOf.l0, sumL]
    rw [if_neg (by omega)]
  | d + 1, i, k, acc, h, hk => by
    obtain ⟨k, rfl⟩ : ∃ m, k = m + 1 := ⟨k - 1, by omega⟩
    simp only [impl_sumOf.l0, sumL]
    rw [if_pos (by omega), if_pos (by omega), if_pos (by omega), wrap_id (x := (i : Int) + 1) (by omega) (by omega)]
    exact impl_sum_l0 s hn d (i + 1) k _ (by omega) (by omega)
theorem impl_sum (s : ByteArray) (hn : s.size ≤ 1048576) (k : Nat) (hk : s.size < k) : impl_sumOf.f k s = some (dsum s) := by
  unfold impl_sumOf.f
  exact impl_sum_l0 s hn s.size 0 k 0 (by omega) hk

def hA (s : ByteArray) : ByteArray := s.extract 0 (s.size / 2)
def hB (s : ByteArray) : ByteArray := s.extract (s.size / 2) s.size
theorem hA_size (s : ByteArray) : (hA s).size = s.size / 2 := by unfold hA; rw [ByteArray.size_extract]; omega
theorem hB_size (s : ByteArray) : (hB s).size = s.size - s.size / 2 := by unfold hB; rw [ByteArray.size_extract]; omega
theorem impl_halves_eq (s : ByteArray) (hn : s.size ≤ 1048576) : impl_halves.f s = some (hA s, hB s) := by
  unfold impl_halves.f hA hB
  rw [wrap_id (x := (s.size : Int) / 2) (by omega) (by omega)]
  have e1 : ((s.size : Int) / 2).toNat = s.size / 2 := by omega
  rw [e1, if_pos (by omega), if_pos (by omega)]
theorem spec_halves_eq (s : ByteArray) (hn : s.size ≤ 1048576) (k : Nat) (hk : s.size < k) : spec_tkHalves.f k s = some (dsum (hA s), dsum (hB s)) := by
  unfold spec_tkHalves.f
  rw [wrap_id (x := (s.size : Int) / 2) (by omega) (by omega)]
  have e1 : ((s.size : Int) / 2).toNat = s.size / 2 := by omega
  rw [e1, if_pos (by omega), if_pos (by omega)]
  have a1 := hA_size s
  have a2 := hB_size s
  have b1 := spec_sum (hA s) (by omega) k (by omega)
  have b2 := spec_sum (hB s) (by omega) k (by omega)
  unfold hA at b1
  unfold hB at b2
  rw [b1]; simp only [Option.bind_some]
  rw [b2]; simp only [Option.bind_some]
  rfl

def lucky (s : ByteArray) : Bool := dsum (hA s) == dsum (hB s)
theorem spec_lucky (s : ByteArray) (hn : s.size ≤ 1048576) (k : Nat) (hk : s.size < k) : spec_tkLucky.f k s = some (lucky s) := by
  unfold spec_tkLucky.f
  rw [spec_halves_eq s hn k hk]
  rfl
theorem impl_lucky (s : ByteArray) (hn : s.size ≤ 1048576) (k : Nat) (hk : s.size < k) : impl_isLucky.f k s = some (lucky s) := by
  unfold impl_isLucky.f
  have a1 := hA_size s
  have a2 := hB_size s
  rw [impl_halves_eq s hn]; simp only [Option.bind_some]
  rw [impl_sum _ (by omega) _ (by omega), impl_sum _ (by omega) _ (by omega)]
  rfl

theorem FnExactIsLucky : laws_FnExactIsLucky.Pure := by
  intro s hs
  refine ⟨s.size + 1, ?_⟩
  unfold laws_FnExactIsLucky.f
  by_cases h : (s.size : Int) > 1048576
  · rw [if_pos h]
  · rw [if_neg h]
    unfold spec_IsLucky.f impl_IsLucky.f
    rw [spec_good s (by omega) _ (by omega), impl_good s (by omega) _ (by omega)]
    simp only [Option.bind_some]
    by_cases g : good s = true
    · rw [if_pos g, if_pos g, spec_lucky s (by omega) _ (by omega), impl_lucky s (by omega) _ (by omega)]
      simp
    · rw [if_neg g, if_neg g]
      simp

end Go.Proofs.Ythpmbefhnhojbaa.Pure
