/- For every text the program's NumberOfTicket and the reference's answer alike: the plain law, without conditions. -/
import Derived.Test.YthpmbefhnhojbaaPFnExactNumberOfTicketx1
set_option linter.unusedVariables false
set_option linter.unusedSimpArgs false
namespace Go.Proofs.Ythpmbefhnhojbaa.Pure
open Go.RowKit Go.Proofs.Ythpmbefhnhojbaa.PFnExactNumberOfTicket Go.Proofs.YthpmbefhnhojbaaW.PrintWords Go.Proofs.YthpmbefhnhojbaaW.PrintLast Go.Proofs.YthpmbefhnhojbaaW.PrintMore

theorem wrap_id {x : Int} (h0 : -9223372036854775808 ≤ x) (h1 : x < 9223372036854775808) : wrap64 x = x := by
  unfold wrap64
  omega
theorem lit_wf {x : Int} (h : (Lit.int .i64 x).wf = true) : -9223372036854775808 ≤ x ∧ x < 9223372036854775808 := by
  have h2 := h
  simp [Lit.wf, IntKind.min, IntKind.max, IntKind.bits, IntKind.signed] at h2
  omega

def allFrom (s : ByteArray) : Nat → Nat → Bool
  | 0, _ => true
  | d + 1, i => if bt s i < 48 then false else if bt s i > 57 then false else allFrom s d (i + 1)
theorem allFrom_bt (s : ByteArray) : ∀ (d i : Nat), allFrom s d i = true → ∀ j : Nat, i ≤ j → j < i + d → 48 ≤ bt s j ∧ bt s j ≤ 57
  | 0, i, _, j, h1, h2 => by omega
  | d + 1, i, h, j, h1, h2 => by
    unfold allFrom at h
    by_cases c1 : bt s i < 48
    · rw [if_pos c1] at h; cases h
    · rw [if_neg c1] at h
      by_cases c2 : bt s i > 57
      · rw [if_pos c2] at h; cases h
      · rw [if_neg c2] at h
        by_cases e : j = i
        · subst e; omega
        · exact allFrom_bt s d (i + 1) h j (by omega) (by omega)
def good (s : ByteArray) : Bool := decide (2 ≤ s.size) && decide (s.size ≤ 12) && (s.size % 2 == 0) && allFrom s s.size 0
theorem good_size {s : ByteArray} (h : good s = true) : 2 ≤ s.size ∧ s.size ≤ 12 ∧ s.size % 2 = 0 := by
  simp [good] at h; omega
theorem good_bt {s : ByteArray} (h : good s = true) (j : Nat) (hj : j < s.size) : 48 ≤ bt s j ∧ bt s j ≤ 57 := by
  simp only [good, Bool.and_eq_true] at h
  exact allFrom_bt s s.size 0 h.2 j (by omega) (by omega)
theorem spec_size (n : Int) : spec_tkSize.f n = some (decide (2 ≤ n) && decide (n ≤ 12) && (Int.tmod n 2 == 0)) := by
  unfold spec_tkSize.f spec_l1In.f
  by_cases h1 : n ≥ 2
  · rw [if_pos h1]; simp only [Option.bind_some]
    by_cases h2 : n ≤ 12 <;> simp [h1, h2]
  · rw [if_neg h1]; simp; omega
theorem spec_good_l0 (s : ByteArray) (hn : s.size ≤ 1048576) : ∀ (d i k : Nat), i + d = s.size → d < k → spec_tkGood.l0 k s i = some (allFrom s d i)
  | 0, i, k, h, hk => by
    obtain ⟨k, rfl⟩ : ∃ m, k = m + 1 := ⟨k - 1, by omega⟩
    simp only [spec_tkGood.l0, allFrom]
    rw [if_neg (by omega)]
  | d + 1, i, k, h, hk => by
    obtain ⟨k, rfl⟩ : ∃ m, k = m + 1 := ⟨k - 1, by omega⟩
    simp only [spec_tkGood.l0, allFrom]
    rw [if_pos (by omega), if_pos (by omega)]
    by_cases c1 : bt s i < 48
    · rw [if_pos c1, if_pos c1]
    · rw [if_neg c1, if_neg c1]
      by_cases c2 : bt s i > 57
      · rw [if_pos c2, if_pos c2]
      · rw [if_neg c2, if_neg c2, wrap_id (by omega) (by omega)]
        exact spec_good_l0 s hn d (i + 1) k (by omega) (by omega)
theorem spec_good (s : ByteArray) (hn : s.size ≤ 1048576) (k : Nat) (hk : s.size < k) : spec_tkGood.f k s = some (good s) := by
  unfold spec_tkGood.f
  rw [spec_size]; simp only [Option.bind_some]
  have e : (Int.tmod (s.size : Int) 2 == 0) = (s.size % 2 == 0) := by
    rw [Bool.eq_iff_iff, beq_iff_eq, beq_iff_eq, Int.tmod_eq_emod_of_nonneg (by omega)]
    omega
  by_cases h1 : 2 ≤ s.size ∧ s.size ≤ 12 ∧ s.size % 2 = 0
  · rw [if_pos (by simp [e]; omega)]
    have := spec_good_l0 s hn s.size 0 k (by omega) hk
    rw [show ((0 : Nat) : Int) = 0 from rfl] at this
    rw [this]
    simp [good]; omega
  · rw [if_neg (by simp [e]; omega)]
    congr 1
    simp [good]
    omega
theorem impl_digits_l0 (s : ByteArray) (lo hi : Int) (hn : s.size ≤ 1048576) : ∀ (d i k : Nat), i + d = s.size → d < k →
    impl_areDigits.l0 k s lo hi s.size i = some (allFrom s d i && (decide (lo ≤ s.size) && decide ((s.size : Int) ≤ hi)))
  | 0, i, k, h, hk => by
    obtain ⟨k, rfl⟩ : ∃ m, k = m + 1 := ⟨k - 1, by omega⟩
    simp only [impl_areDigits.l0, allFrom]
    rw [if_neg (by omega)]
    unfold impl_within.f
    by_cases c : lo ≤ (s.size : Int)
    · rw [if_pos c]; simp [c]
    · rw [if_neg c]; simp [c]
  | d + 1, i, k, h, hk => by
    obtain ⟨k, rfl⟩ : ∃ m, k = m + 1 := ⟨k - 1, by omega⟩
    simp only [impl_areDigits.l0, allFrom]
    rw [if_pos (by omega), if_pos (by omega), if_pos (by omega)]
    by_cases c1 : bt s i < 48
    · rw [if_pos c1, if_pos c1]; rfl
    · rw [if_neg c1, if_neg c1]
      by_cases c2 : bt s i > 57
      · rw [if_pos c2, if_pos c2]; rfl
      · rw [if_neg c2, if_neg c2, wrap_id (by omega) (by omega)]
        exact impl_digits_l0 s lo hi hn d (i + 1) k (by omega) (by omega)
theorem impl_digits (s : ByteArray) (lo hi : Int) (hn : s.size ≤ 1048576) (k : Nat) (hk : s.size < k) :
    impl_areDigits.f k s lo hi = some (allFrom s s.size 0 && (decide (lo ≤ s.size) && decide ((s.size : Int) ≤ hi))) := by
  unfold impl_areDigits.f
  exact impl_digits_l0 s lo hi hn s.size 0 k (by omega) hk
theorem impl_good (s : ByteArray) (hn : s.size ≤ 1048576) (k : Nat) (hk : s.size < k) : impl_IsTicket.f k s = some (good s) := by
  unfold impl_IsTicket.f
  rw [impl_digits s 2 12 hn k hk]; simp only [Option.bind_some]
  by_cases h : allFrom s s.size 0 = true ∧ 2 ≤ s.size ∧ s.size ≤ 12
  · rw [if_pos (by simp [h.1]; omega)]
    congr 1
    simp only [good, h.1, h.2.1, h.2.2, decide_true, Bool.true_and, Bool.and_true]
    rw [Bool.eq_iff_iff, beq_iff_eq, beq_iff_eq]; omega
  · rw [if_neg (by simp; intro a b; exact Int.not_le.mp fun c => h ⟨a, by omega, by omega⟩)]
    congr 1
    symm
    rw [← Bool.not_eq_true]
    intro g
    have := good_size g
    simp only [good, Bool.and_eq_true] at g
    exact h ⟨g.2, this.1, this.2.1⟩

def numL (s : ByteArray) : Nat → Nat → Int → Int
  | 0, _, acc => acc
  | d + 1, i, acc => numL s d (i + 1) (wrap64 (wrap64 (10 * acc) + ((bt s i - 48) % 256)))
def dnum (s : ByteArray) : Int := numL s s.size 0 0
theorem spec_num_l0 (s : ByteArray) (hn : s.size ≤ 1048576) : ∀ (d i k : Nat) (acc : Int), i + d = s.size → d < k → spec_tkNumber.l0 k s acc i = some (numL s d i acc)
  | 0, i, k, acc, h, hk => by
    obtain ⟨k, rfl⟩ : ∃ m, k = m + 1 := ⟨k - 1, by omega⟩
    simp only [spec_tkNumber.l0, numL]
    rw [if_neg (by omega)]
  | d + 1, i, k, acc, h, hk => by
    obtain ⟨k, rfl⟩ : ∃ m, k = m + 1 := ⟨k - 1, by omega⟩
    simp only [spec_tkNumber.l0, numL]
    rw [if_pos (by omega), if_pos (by omega), wrap_id (x := (i : Int) + 1) (by omega) (by omega), Int.mul_comm acc 10]
    exact spec_num_l0 s hn d (i + 1) k _ (by omega) (by omega)
theorem spec_num (s : ByteArray) (hn : s.size ≤ 1048576) (k : Nat) (hk : s.size < k) : spec_tkNumber.f k s = some (dnum s) := by
  unfold spec_tkNumber.f
  exact spec_num_l0 s hn s.size 0 k 0 (by omega) hk
theorem impl_num_l0 (s : ByteArray) (hn : s.size ≤ 1048576) : ∀ (d i k : Nat) (acc : Int), i + d = s.size → d < k → impl_numberOf.l0 k s acc s.size i = some (numL s d i acc)
  | 0, i, k, acc, h, hk => by
    obtain ⟨k, rfl⟩ : ∃ m, k = m + 1 := ⟨k - 1, by omega⟩
    simp only [impl_numberOf.l0, numL]
    rw [if_neg (by omega)]
  | d + 1, i, k, acc, h, hk => by
    obtain ⟨k, rfl⟩ : ∃ m, k = m + 1 := ⟨k - 1, by omega⟩
    simp only [impl_numberOf.l0, numL]
    rw [if_pos (by omega), if_pos (by omega), if_pos (by omega), wrap_id (x := (i : Int) + 1) (by omega) (by omega)]
    exact impl_num_l0 s hn d (i + 1) k _ (by omega) (by omega)
theorem impl_num (s : ByteArray) (hn : s.size ≤ 1048576) (k : Nat) (hk : s.size < k) : impl_numberOf.f k s = some (dnum s) := by
  unfold impl_numberOf.f
  exact impl_num_l0 s hn s.size 0 k 0 (by omega) hk

theorem FnExactNumberOfTicket : laws_FnExactNumberOfTicket.Pure := by
  intro s hs
  refine ⟨s.size + 1, ?_⟩
  unfold laws_FnExactNumberOfTicket.f
  by_cases h : (s.size : Int) > 1048576
  · rw [if_pos h]
  · rw [if_neg h]
    unfold spec_NumberOfTicket.f impl_NumberOfTicket.f
    rw [spec_good s (by omega) _ (by omega), impl_good s (by omega) _ (by omega)]
    simp only [Option.bind_some]
    by_cases g : good s = true
    · rw [if_pos g, if_pos g, spec_num s (by omega) _ (by omega), impl_num s (by omega) _ (by omega)]
      simp
    · rw [if_neg g, if_neg g]
      simp

end Go.Proofs.Ythpmbefhnhojbaa.Pure
