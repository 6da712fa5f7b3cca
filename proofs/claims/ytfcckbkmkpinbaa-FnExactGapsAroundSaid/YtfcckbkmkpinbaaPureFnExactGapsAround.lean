/- For every text the program's GapsAround and the reference's answer alike: the plain law, without conditions. -/
import Derived.Test.YtfcckbkmkpinbaaPFnExactGapsAroundx7
set_option linter.unusedVariables false
set_option linter.unusedSimpArgs false
namespace Go.Proofs.Ytfcckbkmkpinbaa.Pure
open Go.RowKit Go.Proofs.Ytfcckbkmkpinbaa.PFnExactGapsAround Go.Proofs.YtfcckbkmkpinbaaW.PrintWords Go.Proofs.YtfcckbkmkpinbaaW.PrintLast Go.Proofs.YtfcckbkmkpinbaaW.PrintMore

theorem wrap_id {x : Int} (h0 : -9223372036854775808 ≤ x) (h1 : x < 9223372036854775808) : wrap64 x = x := by
  unfold wrap64
  omega
theorem lit_wf {x : Int} (h : (Lit.int .i64 x).wf = true) : -9223372036854775808 ≤ x ∧ x < 9223372036854775808 := by
  have h2 := h
  simp [Lit.wf, IntKind.min, IntKind.max, IntKind.bits, IntKind.signed] at h2
  omega
theorem wrap_add (x y : Int) : wrap64 (wrap64 x + y) = wrap64 (x + y) := by
  have e : ∀ (m c : Int), ((x + c) % m - c + y + c) % m = (x + y + c) % m := fun m c => by
    have h1 : (x + c) % m - c + y + c = (x + c) % m + y := by generalize (x + c) % m = q; omega
    rw [h1, Int.emod_add_emod, show x + c + y = x + y + c by omega]
  unfold wrap64
  rw [e]
theorem wrap_sub (x y : Int) : wrap64 (wrap64 x - y) = wrap64 (x - y) := by
  rw [Int.sub_eq_add_neg, wrap_add, Int.sub_eq_add_neg]

def allFrom (s : ByteArray) : Nat → Nat → Bool
  | 0, _ => true
  | d + 1, i => if bt s i < 48 then false else if bt s i > 57 then false else allFrom s d (i + 1)
theorem allFrom_bt (s : ByteArray) : ∀ (d i : Nat), allFrom s d i = true → ∀ j : Nat, i ≤ j → j < i + d → 48 ≤ bt s j ∧ bt s j ≤ 57
  | 0, i, _, j, h1, h2 => by omega
  | d + 1, i, h, j, h1, h2 => by
    unfold allFrom at h
    by_cases c1 : bt s i < 48
    · rw [if_pos c1] at h; cases h
    · rw [if_neg c1] at h
      by_cases c2 : bt s i > 57
      · rw [if_pos c2] at h; cases h
      · rw [if_neg c2] at h
        by_cases e : j = i
        · subst e; omega
        · exact allFrom_bt s d (i + 1) h j (by omega) (by omega)
def good (s : ByteArray) : Bool := decide (2 ≤ s.size) && decide (s.size ≤ 12) && (s.size % 2 == 0) && allFrom s s.size 0
theorem good_size {s : ByteArray} (h : good s = true) : 2 ≤ s.size ∧ s.size ≤ 12 ∧ s.size % 2 = 0 := by
  simp [good] at h; omega
theorem good_bt {s : ByteArray} (h : good s = true) (j : Nat) (hj : j < s.size) : 48 ≤ bt s j ∧ bt s j ≤ 57 := by
  simp only [good, Bool.and_eq_true] at h
  exact allFrom_bt s s.size 0 h.2 j (by omega) (by omega)
theorem spec_size (n : Int) : spec_tkSize.f n = some (decide (2 ≤ n) && decide (n ≤ 12) && (Int.tmod n 2 == 0)) := by
  unfold spec_tkSize.f spec_l1In.f
  by_cases h1 : n ≥ 2
  · rw [if_pos h1]; simp only [Option.bind_some]
    by_cases h2 : n ≤ 12 <;> simp [h1, h2]
  · rw [if_neg h1]; simp; omega
theorem spec_good_l0 (s : ByteArray) (hn : s.size ≤ 1048576) : ∀ (d i k : Nat), i + d = s.size → d < k → spec_tkGood.l0 k s i = some (allFrom s d i)
  | 0, i, k, h, hk => by
    obtain ⟨k, rfl⟩ : ∃ m, k = m + 1 := ⟨k - 1, by omega⟩
    simp only [spec_tkGood.l0, allFrom]
    rw [if_neg (by omega)]
  | d + 1, i, k, h, hk => by
    obtain ⟨k, rfl⟩ : ∃ m, k = m + 1 := ⟨k - 1, by omega⟩
    simp only [spec_tkGood.l0, allFrom]
    rw [if_pos (by omega), if_pos (by omega)]
    by_cases c1 : bt s i < 48
    · rw [if_pos c1, if_pos c1]
    · rw [if_neg c1, if_neg c1]
      by_cases c2 : bt s i > 57
      · rw [if_pos c2, if_pos c2]
      · rw [if_neg c2, if_neg c2, wrap_id (by omega) (by omega)]
        exact spec_good_l0 s hn d (i + 1) k (by omega) (by omega)
theorem spec_good (s : ByteArray) (hn : s.size ≤ 1048576) (k : Nat) (hk : s.size < k) : spec_tkGood.f k s = some (good s) := by
  unfold spec_tkGood.f
  rw [spec_size]; simp only [Option.bind_some]
  have e : (Int.tmod (s.size : Int) 2 == 0) = (s.size % 2 == 0) := by
    rw [Bool.eq_iff_iff, beq_iff_eq, beq_iff_eq, Int.tmod_eq_emod_of_nonneg (by omega)]
    omega
  by_cases h1 : 2 ≤ s.size ∧ s.size ≤ 12 ∧ s.size % 2 = 0
  · rw [if_pos (by simp [e]; omega)]
    have := spec_good_l0 s hn s.size 0 k (by omega) hk
    rw [show ((0 : Nat) : Int) = 0 from rfl] at this
    rw [this]
    simp [good]; omega
  · rw [if_neg (by simp [e]; omega)]
    congr 1
    simp [good]
    omega
theorem impl_digits_l0 (s : ByteArray) (lo hi : Int) (hn : s.size ≤ 1048576) : ∀ (d i k : Nat), i + d = s.size → d < k →
    impl_areDigits.l0 k s lo hi s.size i = some (allFrom s d i && (decide (lo ≤ s.size) && decide ((s.size : Int) ≤ hi)))
  | 0, i, k, h, hk => by
    obtain ⟨k, rfl⟩ : ∃ m, k = m + 1 := ⟨k - 1, by omega⟩
    simp only [impl_areDigits.l0, allFrom]
    rw [if_neg (by omega)]
    unfold impl_within.f
    by_cases c : lo ≤ (s.size : Int)
    · rw [if_pos c]; simp [c]
    · rw [if_neg c]; simp [c]
  | d + 1, i, k, h, hk => by
    obtain ⟨k, rfl⟩ : ∃ m, k = m + 1 := ⟨k - 1, by omega⟩
    simp only [impl_areDigits.l0, allFrom]
    rw [if_pos (by omega), if_pos (by omega), if_pos (by omega)]
    by_cases c1 : bt s i < 48
    · rw [if_pos c1, if_pos c1]; rfl
    · rw [if_neg c1, if_neg c1]
      by_cases c2 : bt s i > 57
      · rw [if_pos c2, if_pos c2]; rfl
      · rw [if_neg c2, if_neg c2, wrap_id (by omega) (by omega)]
        exact impl_digits_l0 s lo hi hn d (i + 1) k (by omega) (by omega)
theorem impl_digits (s : ByteArray) (lo hi : Int) (hn : s.size ≤ 1048576) (k : Nat) (hk : s.size < k) :
    impl_areDigits.f k s lo hi = some (allFrom s s.size 0 && (decide (lo ≤ s.size) && decide ((s.size : Int) ≤ hi))) := by
  unfold impl_areDigits.f
  exact impl_digits_l0 s lo hi hn s.size 0 k (by omega) hk
theorem impl_good (s : ByteArray) (hn : s.size ≤ 1048576) (k : Nat) (hk : s.size < k) : impl_IsTicket.f k s = some (good s) := by
  unfold impl_IsTicket.f
  rw [impl_digits s 2 12 hn k hk]; simp only [Option.bind_some]
  by_cases h : allFrom s s.size 0 = true ∧ 2 ≤ s.size ∧ s.size ≤ 12
  · rw [if_pos (by simp [h.1]; omega)]
    congr 1
    simp only [good, h.1, h.2.1, h.2.2, decide_true, Bool.true_and, Bool.and_true]
    rw [Bool.eq_iff_iff, beq_iff_eq, beq_iff_eq]; omega
  · rw [if_neg (by simp; intro a b; exact Int.not_le.mp fun c => h ⟨a, by omega, by omega⟩)]
    congr 1
    symm
    rw [← Bool.not_eq_true]
    intro g
    have := good_size g
    simp only [good, Bool.and_eq_true] at g
    exact h ⟨g.2, this.1, this.2.1⟩

def sumL (s : ByteArray) : Nat → Nat → Int → Int
  | 0, _, acc => acc
  | d + 1, i, acc => sumL s d (i + 1) (wrap64 (acc + ((bt s i - 48) % 256)))
def dsum (s : ByteArray) : Int := sumL s s.size 0 0
theorem spec_sum_l0 (s : ByteArray) (hn : s.size ≤ 1048576) : ∀ (d i k : Nat) (acc : Int), i + d = s.size → d < k → spec_tkSum.l0 k s acc i = some (sumL s d i acc)
  | 0, i, k, acc, h, hk => by
    obtain ⟨k, rfl⟩ : ∃ m, k = m + 1 := ⟨k - 1, by omega⟩
    simp only [spec_tkSum.l0, sumL]
    rw [if_neg (by omega)]
  | d + 1, i, k, acc, h, hk => by
    obtain ⟨k, rfl⟩ : ∃ m, k = m + 1 := ⟨k - 1, by omega⟩
    simp only [spec_tkSum.l0, sumL]
    rw [if_pos (by omega), if_pos (by omega), wrap_id (x := (i : Int) + 1) (by omega) (by omega)]
    exact spec_sum_l0 s hn d (i + 1) k _ (by omega) (by omega)
theorem spec_sum (s : ByteArray) (hn : s.size ≤ 1048576) (k : Nat) (hk : s.size < k) : spec_tkSum.f k s = some (dsum s) := by
  unfold spec_tkSum.f
  exact spec_sum_l0 s hn s.size 0 k 0 (by omega) hk
theorem impl_sum_l0 (s : ByteArray) (hn : s.size ≤ 1048576) : ∀ (d i k : Nat) (acc : Int), i + d = s.size → d < k → impl_sumOf.l0 k s acc s.size i = some (sumL s d i acc)
  | 0, i, k, acc, h, hk => by
    obtain ⟨k, rfl⟩ : ∃ m, k = m + 1 := ⟨k - 1, by omega⟩
    simp only [impl_sumOf.l0, sumL]
    rw [if_neg (by omega)]
  | d + 1, i, k, acc, h, hk => by
    obtain ⟨k, rfl⟩ : ∃ m, k = m + 1 := ⟨k - 1, by omega⟩
    simp only [impl_sumOf.l0, sumL]
    rw [if_pos (by omega), if_pos (by omega), if_pos (by omega), wrap_id (x := (i : Int) + 1) (by omega) (by omega)]
    exact impl_sum_l0 s hn d (i + 1) k _ (by omega) (by omega)
theorem impl_sum (s : ByteArray) (hn : s.size ≤ 1048576) (k : Nat) (hk : s.size < k) : impl_sumOf.f k s = some (dsum s) := by
  unfold impl_sumOf.f
  exact impl_sum_l0 s hn s.size 0 k 0 (by omega) hk

def hA (s : ByteArray) : ByteArray := s.extract 0 (s.size / 2)
def hB (s : ByteArray) : ByteArray := s.extract (s.size / 2) s.size
theorem hA_size (s : ByteArray) : (hA s).size = s.size / 2 := by unfold hA; rw [ByteArray.size_extract]; omega
theorem hB_size (s : ByteArray) : (hB s).size = s.size - s.size / 2 := by unfold hB; rw [ByteArray.size_extract]; omega
theorem impl_halves_eq (s : ByteArray) (hn : s.size ≤ 1048576) : impl_halves.f s = some (hA s, hB s) := by
  unfold impl_halves.f hA hB
  rw [wrap_id (x := (s.size : Int) / 2) (by omega) (by omega)]
  have e1 : ((s.size : Int) / 2).toNat = s.size / 2 := by omega
  rw [e1, if_pos (by omega), if_pos (by omega)]
theorem spec_halves_eq (s : ByteArray) (hn : s.size ≤ 1048576) (k : Nat) (hk : s.size < k) : spec_tkHalves.f k s = some (dsum (hA s), dsum (hB s)) := by
  unfold spec_tkHalves.f
  rw [wrap_id (x := (s.size : Int) / 2) (by omega) (by omega)]
  have e1 : ((s.size : Int) / 2).toNat = s.size / 2 := by omega
  rw [e1, if_pos (by omega), if_pos (by omega)]
  have a1 := hA_size s
  have a2 := hB_size s
  have b1 := spec_sum (hA s) (by omega) k (by omega)
  have b2 := spec_sum (hB s) (by omega) k (by omega)
  unfold hA at b1
  unfold hB at b2
  rw [b1]; simp only [Option.bind_some]
  rw [b2]; simp only [Option.bind_some]
  rfl

def lucky (s : ByteArray) : Bool := dsum (hA s) == dsum (hB s)
theorem spec_lucky (s : ByteArray) (hn : s.size ≤ 1048576) (k : Nat) (hk : s.size < k) : spec_tkLucky.f k s = some (lucky s) := by
  unfold spec_tkLucky.f
  rw [spec_halves_eq s hn k hk]
  rfl
theorem impl_lucky (s : ByteArray) (hn : s.size ≤ 1048576) (k : Nat) (hk : s.size < k) : impl_isLucky.f k s = some (lucky s) := by
  unfold impl_isLucky.f
  have a1 := hA_size s
  have a2 := hB_size s
  rw [impl_halves_eq s hn]; simp only [Option.bind_some]
  rw [impl_sum _ (by omega) _ (by omega), impl_sum _ (by omega) _ (by omega)]
  rfl

def numL (s : ByteArray) : Nat → Nat → Int → Int
  | 0, _, acc => acc
  | d + 1, i, acc => numL s d (i + 1) (wrap64 (wrap64 (10 * acc) + ((bt s i - 48) % 256)))
def dnum (s : ByteArray) : Int := numL s s.size 0 0
theorem spec_num_l0 (s : ByteArray) (hn : s.size ≤ 1048576) : ∀ (d i k : Nat) (acc : Int), i + d = s.size → d < k → spec_tkNumber.l0 k s acc i = some (numL s d i acc)
  | 0, i, k, acc, h, hk => by
    obtain ⟨k, rfl⟩ : ∃ m, k = m + 1 := ⟨k - 1, by omega⟩
    simp only [spec_tkNumber.l0, numL]
    rw [if_neg (by omega)]
  | d + 1, i, k, acc, h, hk => by
    obtain ⟨k, rfl⟩ : ∃ m, k = m + 1 := ⟨k - 1, by omega⟩
    simp only [spec_tkNumber.l0, numL]
    rw [if_pos (by omega), if_pos (by omega), wrap_id (x := (i : Int) + 1) (by omega) (by omega), Int.mul_comm acc 10]
    exact spec_num_l0 s hn d (i + 1) k _ (by omega) (by omega)
theorem spec_num (s : ByteArray) (hn : s.size ≤ 1048576) (k : Nat) (hk : s.size < k) : spec_tkNumber.f k s = some (dnum s) := by
  unfold spec_tkNumber.f
  exact spec_num_l0 s hn s.size 0 k 0 (by omega) hk
theorem impl_num_l0 (s : ByteArray) (hn : s.size ≤ 1048576) : ∀ (d i k : Nat) (acc : Int), i + d = s.size → d < k → impl_numberOf.l0 k s acc s.size i = some (numL s d i acc)
  | 0, i, k, acc, h, hk => by
    obtain ⟨k, rfl⟩ : ∃ m, k = m + 1 := ⟨k - 1, by omega⟩
    simp only [impl_numberOf.l0, numL]
    rw [if_neg (by omega)]
  | d + 1, i, k, acc, h, hk => by
    obtain ⟨k, rfl⟩ : ∃ m, k = m + 1 := ⟨k - 1, by omega⟩
    simp only [impl_numberOf.l0, numL]
    rw [if_pos (by omega), if_pos (by omega), if_pos (by omega), wrap_id (x := (i : Int) + 1) (by omega) (by omega)]
    exact impl_num_l0 s hn d (i + 1) k _ (by omega) (by omega)
theorem impl_num (s : ByteArray) (hn : s.size ≤ 1048576) (k : Nat) (hk : s.size < k) : impl_numberOf.f k s = some (dnum s) := by
  unfold impl_numberOf.f
  exact impl_num_l0 s hn s.size 0 k 0 (by omega) hk

def sizeB (n : Int) : Bool := decide (2 ≤ n) && decide (n ≤ 12) && (Int.tmod n 2 == 0)
theorem sizeB_half {n : Int} (h : sizeB n = true) : ∃ m : Nat, 1 ≤ m ∧ m < 7 ∧ n = 2 * (m : Int) ∧ wrap64 (Int.tdiv n 2) = (m : Int) := by
  simp [sizeB] at h
  obtain ⟨⟨h1, h2⟩, h3⟩ := h
  rw [Int.tmod_eq_emod_of_nonneg (by omega)] at h3
  refine ⟨(n / 2).toNat, by omega, by omega, by omega, ?_⟩
  rw [Int.tdiv_eq_ediv_of_nonneg (by omega)]
  unfold wrap64
  omega
theorem spec_sizeB (n : Int) : spec_tkSize.f n = some (sizeB n) := by
  unfold spec_tkSize.f spec_l1In.f sizeB
  by_cases h1 : n ≥ 2
  · rw [if_pos h1]; simp only [Option.bind_some]
    by_cases h2 : n ≤ 12 <;> simp [h1, h2]
  · rw [if_neg h1]; simp; omega
theorem impl_sizeB (n : Int) : impl_isSize.f n = some (sizeB n) := by
  unfold impl_isSize.f impl_within.f sizeB
  by_cases h1 : 2 ≤ n
  · rw [if_pos h1]; simp only [Option.bind_some]
    by_cases h2 : n ≤ 12 <;> simp [h1, h2]
  · rw [if_neg h1]; simp; omega

def W : Nat → List Int
  | 0 => [1]
  | 1 => [1, 1, 1, 1, 1, 1, 1, 1, 1, 1]
  | 2 => [1, 2, 3, 4, 5, 6, 7, 8, 9, 10, 9, 8, 7, 6, 5, 4, 3, 2, 1]
  | 3 => [1, 3, 6, 10, 15, 21, 28, 36, 45, 55, 63, 69, 73, 75, 75, 73, 69, 63, 55, 45, 36, 28, 21, 15, 10, 6, 3, 1]
  | 4 => [1, 4, 10, 20, 35, 56, 84, 120, 165, 220, 282, 348, 415, 480, 540, 592, 633, 660, 670, 660, 633, 592, 540, 480, 415, 348, 282, 220, 165, 120, 84, 56, 35, 20, 10, 4, 1]
  | 5 => [1, 5, 15, 35, 70, 126, 210, 330, 495, 715, 996, 1340, 1745, 2205, 2710, 3246, 3795, 4335, 4840, 5280, 5631, 5875, 6000, 6000, 5875, 5631, 5280, 4840, 4335, 3795, 3246, 2710, 2205, 1745, 1340, 996, 715, 495, 330, 210, 126, 70, 35, 15, 5, 1]
  | 6 => [1, 6, 21, 56, 126, 252, 462, 792, 1287, 2002, 2997, 4332, 6062, 8232, 10872, 13992, 17577, 21582, 25927, 30492, 35127, 39662, 43917, 47712, 50877, 53262, 54747, 55252, 54747, 53262, 50877, 47712, 43917, 39662, 35127, 30492, 25927, 21582, 17577, 13992, 10872, 8232, 6062, 4332, 2997, 2002, 1287, 792, 462, 252, 126, 56, 21, 6, 1]
  | _ => []
set_option maxRecDepth 100000 in
theorem spec_ways_2000 : ∀ m : Nat, m < 7 → spec_tkWays.f 2000 (m : Int) = some (W m) := by decide +kernel
set_option maxRecDepth 100000 in
theorem impl_ways_2000 : ∀ m : Nat, m < 7 → impl_ways.f 2000 (m : Int) = some (W m) := by decide +kernel
theorem spec_ways (m : Nat) (hm : m < 7) (k : Nat) (hk : 2000 ≤ k) : spec_tkWays.f k (m : Int) = some (W m) :=
  at_rounds (g := fun k => spec_tkWays.f k (m : Int)) (fun k => spec_tkWays.mono _ k) hk (spec_ways_2000 m hm)
theorem impl_ways_eq (m : Nat) (hm : m < 7) (k : Nat) (hk : 2000 ≤ k) : impl_ways.f k (m : Int) = some (W m) :=
  at_rounds (g := fun k => impl_ways.f k (m : Int)) (fun k => impl_ways.mono _ k) hk (impl_ways_2000 m hm)
theorem W_len : ∀ m : Nat, m < 7 → 1 ≤ (W m).length ∧ (W m).length ≤ 55 := by decide +kernel

def atP (l : List Int) (i : Int) : Int := if 0 ≤ i ∧ i < (l.length : Int) then rd l i else 0
theorem spec_of (l : List Int) (i : Int) : spec_tkOf.f l i = some (atP l i) := by
  unfold spec_tkOf.f atP
  by_cases h1 : i < 0
  · rw [if_pos h1, if_neg (by omega)]
  · rw [if_neg h1]
    by_cases h2 : i ≥ (l.length : Int)
    · rw [if_pos h2, if_neg (by omega)]
    · rw [if_neg h2, if_pos (by omega), if_pos (by omega), if_pos (by omega)]
theorem impl_at_eq (l : List Int) (i : Int) (hl : l.length ≤ 1048576) : impl_at.f l i = some (atP l i) := by
  unfold impl_at.f atP impl_within.f
  rw [wrap_id (x := (l.length : Int) - 1) (by omega) (by omega)]
  by_cases h1 : 0 ≤ i
  · rw [if_pos h1]; simp only [Option.bind_some]
    by_cases h2 : i ≤ (l.length : Int) - 1
    · rw [if_pos (by simpa using h2), if_pos h1, if_pos (by omega), if_pos (by omega)]
    · rw [if_neg (by simpa using h2), if_neg (by omega)]
  · rw [if_neg h1]; simp only [Option.bind_some]
    rw [if_neg (by simp), if_neg (by omega)]

theorem son_size (l : List Int) : (strOfNums l).size = l.length := by simp [strOfNums, ByteArray.size]
theorem son_nil : (⟨#[]⟩ : ByteArray) = strOfNums [] := rfl
theorem son_append (l m : List Int) : strOfNums l ++ strOfNums m = strOfNums (l ++ m) := by
  apply ByteArray.ext
  simp [strOfNums]
theorem son_extract (l : List Int) (i j : Nat) : (strOfNums l).extract i j = strOfNums ((l.take j).drop i) := by
  apply ByteArray.ext
  rw [ByteArray.data_extract]
  apply Array.ext'
  simp [strOfNums, Array.toList_extract, List.extract, List.map_take, List.map_drop, List.drop_take]
def byts (l : List Int) : Prop := ∀ c ∈ l, 0 ≤ c ∧ c < 256
theorem son_bt (l : List Int) (h : byts l) (i : Nat) (hi : i < l.length) : bt (strOfNums l) i = l[i] := by
  unfold bt
  have h1 : (i : Int).toNat < (strOfNums l).size := by rw [son_size]; simpa using hi
  rw [dif_pos h1]
  have h2 := h l[i] (List.getElem_mem hi)
  have h3 : ((strOfNums l)[(i : Int).toNat]'h1) = UInt8.ofNat (l[i]).toNat := by
    show (strOfNums l).data[(i : Int).toNat] = _
    simp [strOfNums]
  rw [h3]
  simp
  omega
theorem bytesOf_byts (s : ByteArray) : byts (bytesOf s) := by
  intro c hc
  simp only [bytesOf, List.mem_map] at hc
  obtain ⟨b, _, rfl⟩ := hc
  have := b.toNat_lt
  omega
theorem son_bytesOf (s : ByteArray) : strOfNums (bytesOf s) = s := by
  apply ByteArray.ext
  apply Array.ext'
  simp [strOfNums, bytesOf, Function.comp_def]
def digs (l : List Int) : Prop := ∀ c ∈ l, 48 ≤ c ∧ c ≤ 57
theorem digs_byts {l : List Int} (h : digs l) : byts l := fun c hc => by have := h c hc; omega
theorem digs_append {l m : List Int} (h : digs l) (k : digs m) : digs (l ++ m) := fun c hc => by
  rcases List.mem_append.mp hc with hc | hc
  · exact h c hc
  · exact k c hc
theorem digs_one {c : Int} (h : 48 ≤ c ∧ c ≤ 57) : digs [c] := fun x hx => by simp at hx; subst hx; exact h
theorem digs_take {l : List Int} (h : digs l) (n : Nat) : digs (l.take n) := fun c hc => h c (List.mem_of_mem_take hc)
theorem digs_drop {l : List Int} (h : digs l) (n : Nat) : digs (l.drop n) := fun c hc => h c (List.mem_of_mem_drop hc)
def sN : List Int → Int
  | [] => 0
  | c :: l => (c - 48) + sN l
theorem sN_append (l m : List Int) : sN (l ++ m) = sN l + sN m := by
  induction l with
  | nil => simp [sN]
  | cons c l ih => simp [sN, ih]; omega
theorem sN_range (l : List Int) (h : digs l) : 0 ≤ sN l ∧ sN l ≤ 9 * l.length := by
  induction l with
  | nil => simp [sN]
  | cons c l ih =>
    have h1 := h c (by simp)
    have h2 := ih (fun x hx => h x (by simp [hx]))
    simp [sN]; omega

theorem sumL_sN (l : List Int) (h : digs l) (hl : l.length ≤ 1048576) : ∀ (d i : Nat) (acc : Int), i + d = l.length → 0 ≤ acc → acc ≤ 9 * i →
    sumL (strOfNums l) d i acc = acc + sN (l.drop i)
  | 0, i, acc, e, _, _ => by
    rw [List.drop_of_length_le (by omega)]
    simp [sumL, sN]
  | d + 1, i, acc, e, h0, h1 => by
    have hi : i < l.length := by omega
    have hc := h l[i] (List.getElem_mem hi)
    rw [List.drop_eq_getElem_cons hi]
    simp only [sumL, sN]
    rw [son_bt l (digs_byts h) i hi]
    have e1 : wrap64 (acc + (l[i] - 48) % 256) = acc + (l[i] - 48) := by unfold wrap64; omega
    rw [e1, sumL_sN l h hl d (i + 1) _ (by omega) (by omega) (by omega)]
    omega
theorem dsum_sN (l : List Int) (h : digs l) (hl : l.length ≤ 1048576) : dsum (strOfNums l) = sN l := by
  unfold dsum
  rw [son_size, sumL_sN l h hl l.length 0 0 (by omega) (by omega) (by omega)]
  simp
theorem spec_sumN (l : List Int) (h : digs l) (hl : l.length ≤ 1048576) (k : Nat) (hk : l.length < k) : spec_tkSum.f k (strOfNums l) = some (sN l) := by
  rw [spec_sum _ (by rw [son_size]; exact hl) k (by rw [son_size]; exact hk), dsum_sN l h hl]
theorem impl_sumN (l : List Int) (h : digs l) (hl : l.length ≤ 1048576) (k : Nat) (hk : l.length < k) : impl_sumOf.f k (strOfNums l) = some (sN l) := by
  rw [impl_sum _ (by rw [son_size]; exact hl) k (by rw [son_size]; exact hk), dsum_sN l h hl]

def convL (w l : List Int) (s : Int) : Nat → Nat → Int → Int
  | 0, _, acc => acc
  | d + 1, i, acc => convL w l s d (i + 1) (wrap64 (acc + wrap64 (rd l i * atP w (wrap64 (s + i)))))
def cL (h L : Nat) (s : Int) : Int := convL (W h) (W (h - L)) s (W (h - L)).length 0 0
def comp (h : Nat) (l : List Int) : Int :=
  if l.length < h then cL h l.length (sN l) else atP (W (2 * h - l.length)) (sN (l.take h) - sN (l.drop h))
theorem spec_from_l0 (w l : List Int) (x : List Int) (hx : digs x) (hxl : x.length ≤ 12) (hl : l.length ≤ 55) : ∀ (d i k : Nat) (acc : Int), i + d = l.length → 100 + d < k →
    spec_tkFrom.l0 k (strOfNums x) acc w l l.length i = some (convL w l (sN x) d i acc)
  | 0, i, k, acc, e, hk => by
    obtain ⟨k, rfl⟩ : ∃ m, k = m + 1 := ⟨k - 1, by omega⟩
    simp only [spec_tkFrom.l0, convL]
    rw [if_neg (by omega)]
  | d + 1, i, k, acc, e, hk => by
    obtain ⟨k, rfl⟩ : ∃ m, k = m + 1 := ⟨k - 1, by omega⟩
    simp only [spec_tkFrom.l0, convL]
    rw [if_pos (by omega), if_pos (by omega), if_pos (by omega), spec_sumN x hx (by omega) k (by omega)]
    simp only [Option.bind_some]
    rw [spec_of]
    simp only [Option.bind_some]
    rw [wrap_id (x := (i : Int) + 1) (by omega) (by omega)]
    exact spec_from_l0 w l x hx hxl hl d (i + 1) k _ (by omega) (by omega)
theorem impl_comp_l0 (w l : List Int) (x : List Int) (hx : digs x) (hxl : x.length ≤ 12) (hw : w.length ≤ 55) (hl : l.length ≤ 55) : ∀ (d i k : Nat) (acc : Int), i + d = l.length → 100 + d < k →
    impl_completions.l0 k (strOfNums x) acc w l l.length i = some (convL w l (sN x) d i acc)
  | 0, i, k, acc, e, hk => by
    obtain ⟨k, rfl⟩ : ∃ m, k = m + 1 := ⟨k - 1, by omega⟩
    simp only [impl_completions.l0, convL]
    rw [if_neg (by omega)]
  | d + 1, i, k, acc, e, hk => by
    obtain ⟨k, rfl⟩ : ∃ m, k = m + 1 := ⟨k - 1, by omega⟩
    simp only [impl_completions.l0, convL]
    rw [if_pos (by omega), if_pos (by omega), if_pos (by omega), impl_sumN x hx (by omega) k (by omega)]
    simp only [Option.bind_some]
    rw [impl_at_eq _ _ (by omega)]
    simp only [Option.bind_some]
    rw [wrap_id (x := (i : Int) + 1) (by omega) (by omega), Int.add_comm (i : Int) (sN x)]
    exact impl_comp_l0 w l x hx hxl hw hl d (i + 1) k _ (by omega) (by omega)
set_option maxRecDepth 100000 in
theorem c_edge : ∀ h : Nat, h < 7 → ∀ s : Nat, s < 55 → convL (W h) (W 0) s 1 0 0 = atP (W h) s := by decide +kernel
theorem half_of (h : Nat) (hh : h < 7) : wrap64 (Int.tdiv (2 * (h : Int)) 2) = (h : Int) := by
  rw [Int.tdiv_eq_ediv_of_nonneg (by omega)]
  unfold wrap64
  omega
theorem spec_from (h : Nat) (h1 : 1 ≤ h) (h2 : h < 7) (l : List Int) (hd : digs l) (hl : l.length ≤ 2 * h) (k : Nat) (hk : 2000 ≤ k) : spec_tkFrom.f k (2 * (h : Int)) (strOfNums l) = some (comp h l) := by
  unfold spec_tkFrom.f
  rw [half_of h h2, son_size]
  have r1 := sN_range l hd
  by_cases c : l.length ≤ h
  · rw [if_neg (by omega), spec_ways h h2 k hk]
    simp only [Option.bind_some]
    rw [show wrap64 ((h : Int) - (l.length : Int)) = ((h - l.length : Nat) : Int) by unfold wrap64; omega, spec_ways _ (by omega) k hk]
    simp only [Option.bind_some]
    have wl := W_len (h - l.length) (by omega)
    rw [show (0 : Int) = ((0 : Nat) : Int) from rfl, spec_from_l0 (W h) (W (h - l.length)) l hd (by omega) (by omega) (W (h - l.length)).length 0 k _ (by omega) (by omega)]
    congr 1
    unfold comp
    by_cases e : l.length < h
    · rw [if_pos e]; rfl
    · have e' : l.length = h := by omega
      rw [if_neg e, e', Nat.sub_self, List.take_of_length_le (by omega), List.drop_of_length_le (by omega), show 2 * h - h = h by omega]
      have := c_edge h h2 (sN l).toNat (by omega)
      rw [show (((sN l).toNat : Nat) : Int) = sN l by omega] at this
      simp only [sN, Int.sub_zero]
      exact this
  · rw [if_pos (by omega), show wrap64 (2 * (h : Int) - (l.length : Int)) = ((2 * h - l.length : Nat) : Int) by unfold wrap64; omega, spec_ways _ (by omega) k hk]
    simp only [Option.bind_some]
    rw [if_pos (by omega), if_pos (by omega), show ((h : Int)).toNat = h by omega, son_extract, son_extract]
    have d1 : digs ((l.take h).drop 0) := digs_drop (digs_take hd _) _
    have d2 : digs ((l.take l.length).drop h) := digs_drop (digs_take hd _) _
    have z1 : ((l.take h).drop 0).length ≤ 12 := by simp; omega
    have z2 : ((l.take l.length).drop h).length ≤ 12 := by simp; omega
    rw [spec_sumN _ d1 (by omega) k (by omega)]
    simp only [Option.bind_some]
    rw [spec_sumN _ d2 (by omega) k (by omega)]
    simp only [Option.bind_some]
    rw [spec_of]
    simp only [Option.bind_some]
    have q1 := sN_range _ d1
    have q2 := sN_range _ d2
    rw [wrap_id (by omega) (by omega)]
    unfold comp
    rw [if_neg (by omega)]
    simp
theorem impl_comp (h : Nat) (h1 : 1 ≤ h) (h2 : h < 7) (l : List Int) (hd : digs l) (hl : l.length ≤ 2 * h) (k : Nat) (hk : 2000 ≤ k) : impl_completions.f k (2 * (h : Int)) (strOfNums l) = some (comp h l) := by
  unfold impl_completions.f
  rw [half_of h h2, son_size]
  by_cases c : l.length < h
  · rw [if_neg (by omega), impl_ways_eq h h2 k hk]
    simp only [Option.bind_some]
    rw [show wrap64 ((h : Int) - (l.length : Int)) = ((h - l.length : Nat) : Int) by unfold wrap64; omega, impl_ways_eq _ (by omega) k hk]
    simp only [Option.bind_some]
    have wl := W_len (h - l.length) (by omega)
    have wh := W_len h h2
    rw [show (0 : Int) = ((0 : Nat) : Int) from rfl, impl_comp_l0 (W h) (W (h - l.length)) l hd (by omega) (by omega) (by omega) (W (h - l.length)).length 0 k _ (by omega) (by omega)]
    unfold comp
    rw [if_pos c]
    rfl
  · rw [if_pos (by omega), show wrap64 (2 * (h : Int) - (l.length : Int)) = ((2 * h - l.length : Nat) : Int) by unfold wrap64; omega, impl_ways_eq _ (by omega) k hk]
    simp only [Option.bind_some]
    rw [if_pos (by omega), if_pos (by omega), show ((h : Int)).toNat = h by omega, son_extract, son_extract]
    have d1 : digs ((l.take h).drop 0) := digs_drop (digs_take hd _) _
    have d2 : digs ((l.take l.length).drop h) := digs_drop (digs_take hd _) _
    have z1 : ((l.take h).drop 0).length ≤ 12 := by simp; omega
    have z2 : ((l.take l.length).drop h).length ≤ 12 := by simp; omega
    rw [impl_sumN _ d1 (by omega) k (by omega)]
    simp only [Option.bind_some]
    rw [impl_sumN _ d2 (by omega) k (by omega)]
    simp only [Option.bind_some]
    have wl := W_len (2 * h - l.length) (by omega)
    rw [impl_at_eq _ _ (by omega)]
    simp only [Option.bind_some]
    have q1 := sN_range _ d1
    have q2 := sN_range _ d2
    rw [wrap_id (by omega) (by omega)]
    unfold comp
    rw [if_neg (by omega)]
    simp

def sqL (l : List Int) : Nat → Nat → Int → Int
  | 0, _, acc => acc
  | d + 1, i, acc => sqL l d (i + 1) (wrap64 (acc + wrap64 (rd l i * rd l i)))
theorem impl_cl_l0 (l : List Int) (hl : l.length ≤ 55) : ∀ (d i k : Nat) (acc : Int), i + d = l.length → d < k → impl_countLucky.l0 k acc l l.length i = some (sqL l d i acc)
  | 0, i, k, acc, e, hk => by
    obtain ⟨k, rfl⟩ : ∃ m, k = m + 1 := ⟨k - 1, by omega⟩
    simp only [impl_countLucky.l0, sqL]
    rw [if_neg (by omega)]
  | d + 1, i, k, acc, e, hk => by
    obtain ⟨k, rfl⟩ : ∃ m, k = m + 1 := ⟨k - 1, by omega⟩
    simp only [impl_countLucky.l0, sqL]
    rw [if_pos (by omega), if_pos (by omega), if_pos (by omega), wrap_id (x := (i : Int) + 1) (by omega) (by omega)]
    exact impl_cl_l0 l hl d (i + 1) k _ (by omega) (by omega)
set_option maxRecDepth 100000 in
theorem total_eq : ∀ h : Nat, h < 7 → 1 ≤ h → sqL (W h) (W h).length 0 0 = comp h [] ∧ 1 ≤ comp h [] ∧ comp h [] ≤ 1000000000000 := by decide +kernel
theorem impl_total (h : Nat) (h1 : 1 ≤ h) (h2 : h < 7) (k : Nat) (hk : 2000 ≤ k) : impl_countLucky.f k (2 * (h : Int)) = some (comp h []) := by
  unfold impl_countLucky.f
  rw [half_of h h2, impl_ways_eq h h2 k hk]
  simp only [Option.bind_some]
  have wl := W_len h h2
  rw [show (0 : Int) = ((0 : Nat) : Int) from rfl, impl_cl_l0 (W h) (by omega) (W h).length 0 k _ (by omega) (by omega)]
  exact congrArg some (total_eq h h2 h1).1
theorem spec_total (h : Nat) (h1 : 1 ≤ h) (h2 : h < 7) (k : Nat) (hk : 2000 ≤ k) : spec_tkFrom.f k (2 * (h : Int)) (⟨#[]⟩ : ByteArray) = some (comp h []) := by
  rw [son_nil]
  exact spec_from h h1 h2 [] (fun _ hx => by simp at hx) (by simp) k hk

def ds (d : Nat) : Int := 48 + (d : Int)
def sumTo (f : Nat → Int) : Nat → Int
  | 0 => 0
  | c + 1 => f (10 - (c + 1)) + sumTo f c
set_option maxRecDepth 100000 in
set_option maxHeartbeats 4000000 in
theorem split1 : ∀ h : Nat, h < 7 → ∀ L : Nat, L < h - 1 → ∀ s : Nat, s < 9 * L + 1 → cL h L s = sumTo (fun j => cL h (L + 1) ((s : Int) + j)) 10 ∧ 0 ≤ cL h L s ∧ cL h L s ≤ 1000000000000 := by decide +kernel
set_option maxRecDepth 100000 in
set_option maxHeartbeats 4000000 in
theorem split2 : ∀ h : Nat, h < 6 → ∀ s : Nat, s < 9 * h + 1 → cL (h + 1) h s = sumTo (fun j => atP (W (h + 1)) ((s : Int) + j)) 10 ∧ 0 ≤ cL (h + 1) h s ∧ cL (h + 1) h s ≤ 1000000000000 := by decide +kernel
set_option maxRecDepth 100000 in
set_option maxHeartbeats 4000000 in
theorem split3 : ∀ m : Nat, m < 6 → ∀ s : Nat, s < 110 → atP (W (m + 1)) ((s : Int) - 54) = sumTo (fun j => atP (W m) ((s : Int) - 54 - j)) 10 := by decide +kernel
set_option maxRecDepth 100000 in
theorem at_range : ∀ m : Nat, m < 7 → ∀ s : Nat, s < 110 → 0 ≤ atP (W m) ((s : Int) - 54) ∧ atP (W m) ((s : Int) - 54) ≤ 1000000000000 := by decide +kernel
theorem sumTo_congr {f g : Nat → Int} (h : ∀ j, j < 10 → f j = g j) : ∀ c, c ≤ 10 → sumTo f c = sumTo g c
  | 0, _ => rfl
  | c + 1, hc => by
    simp only [sumTo]
    rw [h _ (by omega), sumTo_congr h c (by omega)]
theorem comp_range (h : Nat) (h1 : 1 ≤ h) (h2 : h < 7) (l : List Int) (hd : digs l) (hl : l.length ≤ 2 * h) : 0 ≤ comp h l ∧ comp h l ≤ 1000000000000 := by
  have r := sN_range l hd
  unfold comp
  by_cases c : l.length < h
  · rw [if_pos c]
    by_cases c2 : l.length + 1 < h
    · have := split1 h h2 l.length (by omega) (sN l).toNat (by omega)
      rw [show (((sN l).toNat : Nat) : Int) = sN l by omega] at this
      exact this.2
    · have e : h = l.length + 1 := by omega
      have := split2 l.length (by omega) (sN l).toNat (by omega)
      rw [show (((sN l).toNat : Nat) : Int) = sN l by omega] at this
      rw [e]
      exact this.2
  · rw [if_neg c]
    have r1 := sN_range _ (digs_take hd h)
    have r2 := sN_range _ (digs_drop hd h)
    simp only [List.length_take, List.length_drop] at r1 r2
    have := at_range (2 * h - l.length) (by omega) (sN (l.take h) - sN (l.drop h) + 54).toNat (by omega)
    rw [show (((sN (l.take h) - sN (l.drop h) + 54).toNat : Nat) : Int) - 54 = sN (l.take h) - sN (l.drop h) by omega] at this
    exact this
theorem comp_split (h : Nat) (h1 : 1 ≤ h) (h2 : h < 7) (l : List Int) (hd : digs l) (hl : l.length < 2 * h) : comp h l = sumTo (fun j => comp h (l ++ [ds j])) 10 := by
  have r := sN_range l hd
  have e1 : ∀ j : Nat, sN (l ++ [ds j]) = sN l + j := fun j => by
    rw [sN_append]; simp [sN, ds]; omega
  unfold comp
  by_cases c : l.length < h
  · rw [if_pos c]
    by_cases c2 : l.length + 1 < h
    · have := split1 h h2 l.length (by omega) (sN l).toNat (by omega)
      rw [show (((sN l).toNat : Nat) : Int) = sN l by omega] at this
      rw [this.1]
      refine sumTo_congr (fun j hj => ?_) 10 (Nat.le_refl _)
      rw [if_pos (by simpa using c2), e1]
      simp
    · have e : h = l.length + 1 := by omega
      have := split2 l.length (by omega) (sN l).toNat (by omega)
      rw [show (((sN l).toNat : Nat) : Int) = sN l by omega] at this
      have t1 := this.1
      rw [← e] at t1
      rw [t1]
      refine sumTo_congr (fun j hj => ?_) 10 (Nat.le_refl _)
      rw [if_neg (by simp; omega), List.take_of_length_le (by simp; omega), List.drop_of_length_le (by simp; omega), e1]
      simp only [List.length_append, List.length_cons, List.length_nil, sN, Int.sub_zero]
      rw [show 2 * h - (l.length + (0 + 1)) = h by omega]
  · rw [if_neg c]
    have r1 := sN_range _ (digs_take hd h)
    have r2 := sN_range _ (digs_drop hd h)
    simp only [List.length_take, List.length_drop] at r1 r2
    obtain ⟨m, hm⟩ : ∃ m, 2 * h - l.length = m + 1 := ⟨2 * h - l.length - 1, by omega⟩
    have := split3 m (by omega) (sN (l.take h) - sN (l.drop h) + 54).toNat (by omega)
    rw [show (((sN (l.take h) - sN (l.drop h) + 54).toNat : Nat) : Int) - 54 = sN (l.take h) - sN (l.drop h) by omega] at this
    rw [hm, this]
    refine sumTo_congr (fun j hj => ?_) 10 (Nat.le_refl _)
    rw [if_neg (by simp; omega), List.take_append_of_le_length (by omega), List.drop_append_of_le_length (by omega), sN_append]
    simp only [List.length_append, List.length_cons, List.length_nil]
    rw [show 2 * h - (l.length + (0 + 1)) = m by omega]
    congr 1
    simp [sN, ds]
    omega
def pick (h : Nat) (l : List Int) : Nat → Int → Nat × Int
  | 0, r => (0, r)
  | c + 1, r => if r < comp h (l ++ [ds (10 - (c + 1))]) then (10 - (c + 1), r) else pick h l c (r - comp h (l ++ [ds (10 - (c + 1))]))
theorem digs_next {l : List Int} (hd : digs l) (j : Nat) (hj : j < 10) : digs (l ++ [ds j]) := digs_append hd (digs_one (by unfold ds; omega))
theorem pick_ok (h : Nat) (h1 : 1 ≤ h) (h2 : h < 7) (l : List Int) (hd : digs l) (hl : l.length < 2 * h) : ∀ (c : Nat) (r : Int), c ≤ 10 → 0 ≤ r → r < sumTo (fun j => comp h (l ++ [ds j])) c →
    (pick h l c r).1 < 10 ∧ 0 ≤ (pick h l c r).2 ∧ (pick h l c r).2 < comp h (l ++ [ds (pick h l c r).1])
  | 0, r, _, h0, hr => by simp [sumTo] at hr; omega
  | c + 1, r, hc, h0, hr => by
    simp only [sumTo] at hr
    unfold pick
    by_cases t : r < comp h (l ++ [ds (10 - (c + 1))])
    · rw [if_pos t]; exact ⟨by simp; omega, h0, t⟩
    · rw [if_neg t]
      exact pick_ok h h1 h2 l hd hl c _ (by omega) (by omega) (by omega)
def ranked (h : Nat) : Nat → List Int → Int → List Int
  | 0, l, _ => l
  | n + 1, l, r => ranked h n (l ++ [ds (pick h l 10 r).1]) (pick h l 10 r).2
theorem ranked_digs (h : Nat) (h1 : 1 ≤ h) (h2 : h < 7) : ∀ (n : Nat) (l : List Int) (r : Int), l.length + n = 2 * h → digs l → 0 ≤ r → r < comp h l → digs (ranked h n l r) ∧ (ranked h n l r).length = 2 * h
  | 0, l, r, e, hd, _, _ => ⟨hd, by simpa [ranked] using e⟩
  | n + 1, l, r, e, hd, h0, hr => by
    rw [comp_split h h1 h2 l hd (by omega)] at hr
    have p := pick_ok h h1 h2 l hd (by omega) 10 r (Nat.le_refl _) h0 hr
    exact ranked_digs h h1 h2 n _ _ (by simp; omega) (digs_next hd _ p.1) p.2.1 p.2.2
theorem spec_l1Num_digit (j : Nat) (hj : j < 10) (k : Nat) (hk : 0 < k) : spec_l1Num.f k (j : Int) = some (strOfNums [ds j]) := by
  obtain ⟨k, rfl⟩ : ∃ m, k = m + 1 := ⟨k - 1, by omega⟩
  simp only [spec_l1Num.f]
  rw [if_pos (by omega)]
  congr 3
  unfold ds wrap64
  omega
theorem spec_ranked_l1 (h : Nat) (h1 : 1 ≤ h) (h2 : h < 7) (n : Nat) (l : List Int) (hd : digs l) (hl : l.length + n + 1 = 2 * h)
    (ih : ∀ (l : List Int) (r : Int) (k : Nat), l.length + n = 2 * h → digs l → 0 ≤ r → r < comp h l → 2000 + 12 * n < k → spec_tkRanked.l0 k (2 * (h : Int)) r (strOfNums l) = some (strOfNums (ranked h n l r))) :
    ∀ (c : Nat) (r : Int) (k : Nat), c ≤ 10 → 0 ≤ r → r < sumTo (fun j => comp h (l ++ [ds j])) c → r ≤ 1000000000000 → 2000 + 12 * n + c + 1 < k →
    spec_tkRanked.l1 k (2 * (h : Int)) r (strOfNums l) ((10 - c : Nat) : Int) = some (strOfNums (ranked h n (l ++ [ds (pick h l c r).1]) (pick h l c r).2))
  | 0, r, k, _, h0, hr, _, _ => by simp [sumTo] at hr; omega
  | c + 1, r, k, hc, h0, hr, hb, hk => by
    obtain ⟨k, rfl⟩ : ∃ m, k = m + 1 := ⟨k - 1, by omega⟩
    have hd' := digs_next hd (10 - (c + 1)) (by omega)
    have cr := comp_range h h1 h2 _ hd' (by simp; omega)
    simp only [spec_tkRanked.l1]
    rw [if_pos (by omega), spec_l1Num_digit _ (by omega) k (by omega)]
    simp only [Option.bind_some]
    rw [son_size, son_size, if_pos (by simp; omega), son_append, spec_from h h1 h2 _ hd' (by simp; omega) k (by omega)]
    simp only [Option.bind_some]
    simp only [sumTo] at hr
    unfold pick
    by_cases t : r < comp h (l ++ [ds (10 - (c + 1))])
    · rw [if_pos t, if_pos t]
      exact ih _ r k (by simp; omega) hd' h0 t (by omega)
    · rw [if_neg t, if_neg t, wrap_id (by omega) (by omega), wrap_id (by omega) (by omega), show (((10 - (c + 1) : Nat) : Int) + 1) = ((10 - c : Nat) : Int) by omega]
      exact spec_ranked_l1 h h1 h2 n l hd hl ih c _ k (by omega) (by omega) (by omega) (by omega) (by omega)
theorem spec_ranked_l0 (h : Nat) (h1 : 1 ≤ h) (h2 : h < 7) : ∀ (n : Nat) (l : List Int) (r : Int) (k : Nat), l.length + n = 2 * h → digs l → 0 ≤ r → r < comp h l → 2000 + 12 * n < k →
    spec_tkRanked.l0 k (2 * (h : Int)) r (strOfNums l) = some (strOfNums (ranked h n l r))
  | 0, l, r, k, e, hd, h0, hr, hk => by
    obtain ⟨k, rfl⟩ : ∃ m, k = m + 1 := ⟨k - 1, by omega⟩
    simp only [spec_tkRanked.l0, ranked]
    rw [son_size, if_neg (by omega)]
  | n + 1, l, r, k, e, hd, h0, hr, hk => by
    obtain ⟨k, rfl⟩ : ∃ m, k = m + 1 := ⟨k - 1, by omega⟩
    have cr := comp_range h h1 h2 l hd (by omega)
    have hs := comp_split h h1 h2 l hd (by omega)
    simp only [spec_tkRanked.l0, ranked]
    rw [son_size, if_pos (by omega)]
    exact spec_ranked_l1 h h1 h2 n l hd (by omega) (spec_ranked_l0 h h1 h2 n) 10 r k (Nat.le_refl _) h0 (by rw [← hs]; exact hr) (by omega) (by omega)
theorem impl_ranked_l1 (h : Nat) (h1 : 1 ≤ h) (h2 : h < 7) (n : Nat) (l : List Int) (hd : digs l) (hl : l.length + n + 1 = 2 * h)
    (ih : ∀ (l : List Int) (r : Int) (k : Nat), l.length + n = 2 * h → digs l → 0 ≤ r → r < comp h l → 2000 + 12 * n < k → impl_LuckyOfRank.l0 k (2 * (h : Int)) r (strOfNums l) (2 * (h : Int)) l.length = some (strOfNums (ranked h n l r), true)) :
    ∀ (c : Nat) (r : Int) (k : Nat), c ≤ 10 → 0 ≤ r → r < sumTo (fun j => comp h (l ++ [ds j])) c → r ≤ 1000000000000 → 2000 + 12 * n + c + 1 < k →
    impl_LuckyOfRank.l1 k (2 * (h : Int)) r (strOfNums l) (ds (10 - c)) (2 * (h : Int)) l.length = some (strOfNums (ranked h n (l ++ [ds (pick h l c r).1]) (pick h l c r).2), true)
  | 0, r, k, _, h0, hr, _, _ => by simp [sumTo] at hr; omega
  | c + 1, r, k, hc, h0, hr, hb, hk => by
    obtain ⟨k, rfl⟩ : ∃ m, k = m + 1 := ⟨k - 1, by omega⟩
    have hd' := digs_next hd (10 - (c + 1)) (by omega)
    have cr := comp_range h h1 h2 _ hd' (by simp; omega)
    simp only [impl_LuckyOfRank.l1, Option.bind_some]
    rw [son_size, son_size, if_pos (by simp; omega), son_append, impl_comp h h1 h2 _ hd' (by simp; omega) k (by omega)]
    simp only [Option.bind_some]
    simp only [sumTo] at hr
    unfold pick
    by_cases t : r < comp h (l ++ [ds (10 - (c + 1))])
    · rw [if_pos t, if_pos t, wrap_id (by omega) (by omega)]
      have := ih _ r k (by simp; omega) hd' h0 t (by omega)
      simp only [List.length_append, List.length_cons, List.length_nil] at this
      rw [show ((l.length : Int) + 1) = ((l.length + (0 + 1) : Nat) : Int) by omega]
      exact this
    · rw [if_neg t, if_neg t, wrap_id (by omega) (by omega), show (ds (10 - (c + 1)) + 1) % 256 = ds (10 - c) by unfold ds; omega]
      exact impl_ranked_l1 h h1 h2 n l hd hl ih c _ k (by omega) (by omega) (by omega) (by omega) (by omega)
theorem impl_ranked_l0 (h : Nat) (h1 : 1 ≤ h) (h2 : h < 7) : ∀ (n : Nat) (l : List Int) (r : Int) (k : Nat), l.length + n = 2 * h → digs l → 0 ≤ r → r < comp h l → 2000 + 12 * n < k →
    impl_LuckyOfRank.l0 k (2 * (h : Int)) r (strOfNums l) (2 * (h : Int)) l.length = some (strOfNums (ranked h n l r), true)
  | 0, l, r, k, e, hd, h0, hr, hk => by
    obtain ⟨k, rfl⟩ : ∃ m, k = m + 1 := ⟨k - 1, by omega⟩
    simp only [impl_LuckyOfRank.l0, ranked]
    rw [if_neg (by omega)]
  | n + 1, l, r, k, e, hd, h0, hr, hk => by
    obtain ⟨k, rfl⟩ : ∃ m, k = m + 1 := ⟨k - 1, by omega⟩
    have cr := comp_range h h1 h2 l hd (by omega)
    have hs := comp_split h h1 h2 l hd (by omega)
    simp only [impl_LuckyOfRank.l0, ranked]
    rw [if_pos (by omega)]
    exact impl_ranked_l1 h h1 h2 n l hd (by omega) (impl_ranked_l0 h h1 h2 n) 10 r k (Nat.le_refl _) h0 (by rw [← hs]; exact hr) (by omega) (by omega)
theorem spec_ranked (h : Nat) (h1 : 1 ≤ h) (h2 : h < 7) (r : Int) (h0 : 0 ≤ r) (hr : r < comp h []) (k : Nat) (hk : 2200 ≤ k) : spec_tkRanked.f k (2 * (h : Int)) r = some (strOfNums (ranked h (2 * h) [] r)) := by
  unfold spec_tkRanked.f
  exact spec_ranked_l0 h h1 h2 (2 * h) [] r k (by simp) (fun _ hx => by simp at hx) h0 hr (by omega)
/-- What LuckyOfRank answers for a rank. -/
def ofRank (h : Nat) (r : Int) : ByteArray × Bool := if 0 ≤ r ∧ r < comp h [] then (strOfNums (ranked h (2 * h) [] r), true) else (⟨#[]⟩, false)
theorem impl_ofRank (h : Nat) (h1 : 1 ≤ h) (h2 : h < 7) (g : sizeB (2 * (h : Int)) = true) (r : Int) (k : Nat) (hk : 2200 ≤ k) : impl_LuckyOfRank.f k (2 * (h : Int)) r = some (ofRank h r) := by
  unfold impl_LuckyOfRank.f
  have tt := total_eq h h2 h1
  rw [impl_sizeB]; simp only [Option.bind_some]
  rw [if_pos g, impl_total h h1 h2 k (by omega)]; simp only [Option.bind_some]
  unfold impl_within.f ofRank
  obtain ⟨k, rfl⟩ : ∃ m, k = m + 1 := ⟨k - 1, by omega⟩
  rw [wrap_id (by omega) (by omega)]
  by_cases c : 0 ≤ r
  · rw [if_pos c]; simp only [Option.bind_some]
    by_cases c2 : r ≤ comp h [] - 1
    · simp only [impl_LuckyOfRank.j0]
      rw [if_neg (by simp [c2]), if_pos (by omega)]
      have := impl_ranked_l0 h h1 h2 (2 * h) [] r k (by simp) (fun _ hx => by simp at hx) c (by omega) (by omega)
      exact this
    · simp only [impl_LuckyOfRank.j0]
      rw [if_pos (by simp; omega), if_neg (by omega)]
  · rw [if_neg c]; simp only [Option.bind_some, impl_LuckyOfRank.j0]
    rw [if_pos (by simp), if_neg (by omega)]

def rk1 (h : Nat) (l : List Int) (i : Nat) : Nat → Nat → Int → Int
  | 0, _, x => x
  | c + 1, d, x => rk1 h l i c (d + 1) (wrap64 (x + comp h (l.take i ++ [(d : Int)])))
def rk0 (h : Nat) (l : List Int) : Nat → Nat → Int → Int
  | 0, _, x => x
  | n + 1, i, x => rk0 h l n (i + 1) (rk1 h l i (l.getD i 0 - 48).toNat 48 x)
def rankP (h : Nat) (l : List Int) : Int := rk0 h l l.length 0 0
theorem getD_dig {l : List Int} (hd : digs l) (i : Nat) (hi : i < l.length) : l.getD i 0 = l[i] ∧ 48 ≤ l[i] ∧ l[i] ≤ 57 := by
  refine ⟨by simp [hi], hd _ (List.getElem_mem hi)⟩
theorem spec_rank_l1 (h : Nat) (h1 : 1 ≤ h) (h2 : h < 7) (l : List Int) (hd : digs l) (hl : l.length = 2 * h) (n i : Nat) (hi : i + n + 1 = l.length)
    (ih : ∀ (x : Int) (k : Nat), 2000 + 12 * n < k → spec_tkRank.l0 k (strOfNums l) x ((i + 1 : Nat) : Int) = some (rk0 h l n (i + 1) x)) :
    ∀ (c d : Nat) (x : Int) (k : Nat), (d : Int) + c = l.getD i 0 → 48 ≤ d → 2000 + 12 * n + c + 1 < k →
    spec_tkRank.l1 k (strOfNums l) x (i : Int) (d : Int) = some (rk0 h l n (i + 1) (rk1 h l i c d x))
  | 0, d, x, k, e, hd0, hk => by
    obtain ⟨k, rfl⟩ : ∃ m, k = m + 1 := ⟨k - 1, by omega⟩
    have hg := getD_dig hd i (by omega)
    simp only [spec_tkRank.l1, rk1]
    rw [if_pos (by omega), if_pos (by rw [son_size]; omega), son_bt l (digs_byts hd) i (by omega), if_neg (by omega)]
    exact ih x k (by omega)
  | c + 1, d, x, k, e, hd0, hk => by
    obtain ⟨k, rfl⟩ : ∃ m, k = m + 1 := ⟨k - 1, by omega⟩
    have hg := getD_dig hd i (by omega)
    have hd' : digs (l.take i ++ [(d : Int)]) := digs_append (digs_take hd i) (digs_one (by omega))
    simp only [spec_tkRank.l1, rk1]
    rw [if_pos (by omega), if_pos (by rw [son_size]; omega), son_bt l (digs_byts hd) i (by omega), if_pos (by omega), if_pos (by omega), if_pos (by omega)]
    rw [Int.toNat_natCast, son_extract, List.drop_zero, son_append, son_size, hl, show ((2 * h : Nat) : Int) = 2 * (h : Int) by omega, spec_from h h1 h2 _ hd' (by simp; omega) k (by omega)]
    simp only [Option.bind_some]
    rw [show ((d : Int) + 1) % 256 = ((d + 1 : Nat) : Int) by omega]
    exact spec_rank_l1 h h1 h2 l hd hl n i hi ih c (d + 1) _ k (by omega) (by omega) (by omega)
theorem spec_rank_l0 (h : Nat) (h1 : 1 ≤ h) (h2 : h < 7) (l : List Int) (hd : digs l) (hl : l.length = 2 * h) : ∀ (n i : Nat) (x : Int) (k : Nat), i + n = l.length → 2000 + 12 * n < k →
    spec_tkRank.l0 k (strOfNums l) x (i : Int) = some (rk0 h l n i x)
  | 0, i, x, k, e, hk => by
    obtain ⟨k, rfl⟩ : ∃ m, k = m + 1 := ⟨k - 1, by omega⟩
    simp only [spec_tkRank.l0, rk0]
    rw [if_pos (by omega), if_neg (by rw [son_size]; omega)]
  | n + 1, i, x, k, e, hk => by
    obtain ⟨k, rfl⟩ : ∃ m, k = m + 1 := ⟨k - 1, by omega⟩
    have hg := getD_dig hd i (by omega)
    simp only [spec_tkRank.l0, rk0]
    rw [if_pos (by omega), if_pos (by rw [son_size]; omega), son_bt l (digs_byts hd) i (by omega), if_pos (by omega)]
    exact spec_rank_l1 h h1 h2 l hd hl n i (by omega) (fun x k hk => spec_rank_l0 h h1 h2 l hd hl n (i + 1) x k (by omega) hk) _ 48 x k (by omega) (by omega) (by omega)
theorem spec_rank (h : Nat) (h1 : 1 ≤ h) (h2 : h < 7) (l : List Int) (hd : digs l) (hl : l.length = 2 * h) (k : Nat) (hk : 2200 ≤ k) : spec_tkRank.f k (strOfNums l) = some (rankP h l) := by
  unfold spec_tkRank.f rankP
  rw [if_pos (by rw [son_size]; omega)]
  exact spec_rank_l0 h h1 h2 l hd hl l.length 0 0 k (by omega) (by omega)
theorem impl_rank_l1 (h : Nat) (h1 : 1 ≤ h) (h2 : h < 7) (l : List Int) (hd : digs l) (hl : l.length = 2 * h) (n i : Nat) (hi : i + n + 1 = l.length)
    (ih : ∀ (x : Int) (k : Nat), 2000 + 12 * n < k → impl_rankOfLucky.l0 k (strOfNums l) x (l.length : Int) ((i + 1 : Nat) : Int) = some (rk0 h l n (i + 1) x)) :
    ∀ (c d : Nat) (x : Int) (k : Nat), (d : Int) + c = l.getD i 0 → 48 ≤ d → 2000 + 12 * n + c + 1 < k →
    impl_rankOfLucky.l1 k (strOfNums l) x (i : Int) (d : Int) (l.length : Int) (i : Int) = some (rk0 h l n (i + 1) (rk1 h l i c d x))
  | 0, d, x, k, e, hd0, hk => by
    obtain ⟨k, rfl⟩ : ∃ m, k = m + 1 := ⟨k - 1, by omega⟩
    have hg := getD_dig hd i (by omega)
    simp only [impl_rankOfLucky.l1, rk1]
    rw [if_pos (by omega), if_pos (by rw [son_size]; omega), son_bt l (digs_byts hd) i (by omega), if_neg (by omega), wrap_id (by omega) (by omega)]
    exact ih x k (by omega)
  | c + 1, d, x, k, e, hd0, hk => by
    obtain ⟨k, rfl⟩ : ∃ m, k = m + 1 := ⟨k - 1, by omega⟩
    have hg := getD_dig hd i (by omega)
    have hd' : digs (l.take i ++ [(d : Int)]) := digs_append (digs_take hd i) (digs_one (by omega))
    simp only [impl_rankOfLucky.l1, rk1, Option.bind_some]
    rw [if_pos (by omega), if_pos (by rw [son_size]; omega), son_bt l (digs_byts hd) i (by omega), if_pos (by omega), if_pos (by rw [son_size]; omega)]
    rw [Int.toNat_natCast, son_extract, List.drop_zero, son_append, son_size, son_size, son_size, if_pos (by simp; omega), hl, show ((2 * h : Nat) : Int) = 2 * (h : Int) by omega, impl_comp h h1 h2 _ hd' (by simp; omega) k (by omega)]
    simp only [Option.bind_some]
    rw [show ((d : Int) + 1) % 256 = ((d + 1 : Nat) : Int) by omega]
    have := impl_rank_l1 h h1 h2 l hd hl n i hi ih c (d + 1) (wrap64 (x + comp h (l.take i ++ [(d : Int)]))) k (by omega) (by omega) (by omega)
    rw [hl, show ((2 * h : Nat) : Int) = 2 * (h : Int) by omega] at this
    exact this
theorem impl_rank_l0 (h : Nat) (h1 : 1 ≤ h) (h2 : h < 7) (l : List Int) (hd : digs l) (hl : l.length = 2 * h) : ∀ (n i : Nat) (x : Int) (k : Nat), i + n = l.length → 2000 + 12 * n < k →
    impl_rankOfLucky.l0 k (strOfNums l) x (l.length : Int) (i : Int) = some (rk0 h l n i x)
  | 0, i, x, k, e, hk => by
    obtain ⟨k, rfl⟩ : ∃ m, k = m + 1 := ⟨k - 1, by omega⟩
    simp only [impl_rankOfLucky.l0, rk0]
    rw [if_neg (by omega)]
  | n + 1, i, x, k, e, hk => by
    obtain ⟨k, rfl⟩ : ∃ m, k = m + 1 := ⟨k - 1, by omega⟩
    have hg := getD_dig hd i (by omega)
    simp only [impl_rankOfLucky.l0, rk0]
    rw [if_pos (by omega)]
    exact impl_rank_l1 h h1 h2 l hd hl n i (by omega) (fun x k hk => impl_rank_l0 h h1 h2 l hd hl n (i + 1) x k (by omega) hk) _ 48 x k (by omega) (by omega) (by omega)
theorem impl_rank (h : Nat) (h1 : 1 ≤ h) (h2 : h < 7) (l : List Int) (hd : digs l) (hl : l.length = 2 * h) (k : Nat) (hk : 2200 ≤ k) : impl_rankOfLucky.f k (strOfNums l) = some (rankP h l) := by
  unfold impl_rankOfLucky.f rankP
  rw [son_size]
  exact impl_rank_l0 h h1 h2 l hd hl l.length 0 0 k (by omega) (by omega)

theorem good_digs {s : ByteArray} (g : good s = true) : ∃ (h : Nat) (l : List Int), 1 ≤ h ∧ h < 7 ∧ l.length = 2 * h ∧ digs l ∧ s = strOfNums l := by
  have hz := good_size g
  have hb := bytesOf_length s
  refine ⟨s.size / 2, bytesOf s, by omega, by omega, by omega, ?_, (son_bytesOf s).symm⟩
  intro x hx
  obtain ⟨i, hi, rfl⟩ := List.getElem_of_mem hx
  have := good_bt g i (by omega)
  rw [← rd_bytesOf] at this
  simpa [rd, hi] using this

theorem size_sizeB (h : Nat) (h1 : 1 ≤ h) (h2 : h < 7) : sizeB (2 * (h : Int)) = true := by
  unfold sizeB
  rw [Int.tmod_eq_emod_of_nonneg (by omega)]
  simp; omega
def bitI (b : Bool) : Int := if b = true then 1 else 0
theorem impl_bit_eq (b : Bool) : impl_bit.f b = some (bitI b) := by cases b <;> rfl
def lastP (h : Nat) (l : List Int) : ByteArray × Bool := ofRank h (wrap64 (rankP h l - 1))
def nextP (h : Nat) (l : List Int) : ByteArray × Bool := ofRank h (wrap64 (rankP h l + bitI (lucky (strOfNums l))))
theorem spec_next_j0 (h : Nat) (h1 : 1 ≤ h) (h2 : h < 7) (l : List Int) (hl : l.length = 2 * h) (r : Int) (k : Nat) (hk : 2201 ≤ k) : spec_tkNext.j0 k (strOfNums l) r = some (ofRank h r) := by
  obtain ⟨k, rfl⟩ : ∃ m, k = m + 1 := ⟨k - 1, by omega⟩
  simp only [spec_tkNext.j0]
  rw [son_size, hl, show ((2 * h : Nat) : Int) = 2 * (h : Int) by omega]
  unfold ofRank
  by_cases c : r < 0
  · rw [if_pos c, if_neg (by omega)]
  · rw [if_neg c, spec_total h h1 h2 k (by omega)]
    simp only [Option.bind_some]
    by_cases c2 : r ≥ comp h []
    · rw [if_pos c2, if_neg (by omega)]
    · rw [if_neg c2, spec_ranked h h1 h2 r (by omega) (by omega) k (by omega), if_pos (by omega)]
      rfl
theorem spec_last (h : Nat) (h1 : 1 ≤ h) (h2 : h < 7) (l : List Int) (hd : digs l) (hl : l.length = 2 * h) (k : Nat) (hk : 2300 ≤ k) : spec_tkNext.f k (strOfNums l) false = some (lastP h l) := by
  unfold spec_tkNext.f lastP
  rw [spec_rank h h1 h2 l hd hl k (by omega)]
  simp only [Option.bind_some]
  rw [if_neg (by simp)]
  exact spec_next_j0 h h1 h2 l hl _ k (by omega)
theorem next_wrap_t (x : Int) : wrap64 (wrap64 (wrap64 (x - 1) + 1) + 1) = wrap64 (x + 1) := by
  rw [wrap_add (wrap64 (x - 1) + 1) 1, show wrap64 (x - 1) + 1 + 1 = wrap64 (x - 1) + 2 by omega, wrap_add, show x - 1 + 2 = x + 1 by omega]
theorem next_wrap_f (x : Int) : wrap64 (wrap64 (x - 1) + 1) = wrap64 (x + 0) := by
  rw [wrap_add, show x - 1 + 1 = x + 0 by omega]
theorem bitI_t : bitI true = 1 := by simp [bitI]
theorem bitI_f : bitI false = 0 := by simp [bitI]
theorem spec_next_aux (s : ByteArray) (k : Nat) (x : Int) (p : Bool) (q : ByteArray × Bool) (hr : spec_tkRank.f k s = some x) (hp : spec_tkLucky.f k s = some p) (hj : spec_tkNext.j0 k s (wrap64 (x + bitI p)) = some q) : spec_tkNext.f k s true = some q := by
  unfold spec_tkNext.f
  rw [hr, Option.bind_some, if_pos rfl, hp, Option.bind_some, next_wrap_t, next_wrap_f]
  cases p with
  | true =>
    rw [bitI_t] at hj
    rw [if_pos rfl, hj]
  | false =>
    rw [bitI_f] at hj
    rw [if_neg (by simp), hj]
theorem spec_next (h : Nat) (h1 : 1 ≤ h) (h2 : h < 7) (l : List Int) (hd : digs l) (hl : l.length = 2 * h) (k : Nat) (hk : 2300 ≤ k) : spec_tkNext.f k (strOfNums l) true = some (nextP h l) :=
  spec_next_aux _ k _ _ _ (spec_rank h h1 h2 l hd hl k (by omega)) (spec_lucky _ (by rw [son_size]; omega) k (by rw [son_size]; omega)) (spec_next_j0 h h1 h2 l hl _ k (by omega))
theorem impl_last (h : Nat) (h1 : 1 ≤ h) (h2 : h < 7) (l : List Int) (hd : digs l) (hl : l.length = 2 * h) (g : good (strOfNums l) = true) (k : Nat) (hk : 2300 ≤ k) : impl_LastLucky.f k (strOfNums l) = some (lastP h l) := by
  unfold impl_LastLucky.f lastP
  rw [impl_good _ (by rw [son_size]; omega) k (by rw [son_size]; omega)]
  simp only [Option.bind_some]
  rw [if_pos g, impl_rank h h1 h2 l hd hl k (by omega)]
  simp only [Option.bind_some]
  rw [son_size, hl, show ((2 * h : Nat) : Int) = 2 * (h : Int) by omega, impl_ofRank h h1 h2 (size_sizeB h h1 h2) _ k (by omega)]
  rfl
theorem impl_next_aux (s : ByteArray) (k : Nat) (x n : Int) (p : Bool) (q : ByteArray × Bool) (hg : impl_IsTicket.f k s = some true) (hr : impl_rankOfLucky.f k s = some x) (hp : impl_isLucky.f k s = some p) (hn : (s.size : Int) = n) (hj : impl_LuckyOfRank.f k n (wrap64 (x + bitI p)) = some q) : impl_NextLucky.f k s = some q := by
  unfold impl_NextLucky.f
  rw [hg, Option.bind_some, if_pos rfl, hr, Option.bind_some, hp, Option.bind_some, impl_bit_eq, Option.bind_some, hn, hj, Option.bind_some]
theorem impl_next (h : Nat) (h1 : 1 ≤ h) (h2 : h < 7) (l : List Int) (hd : digs l) (hl : l.length = 2 * h) (g : good (strOfNums l) = true) (k : Nat) (hk : 2300 ≤ k) : impl_NextLucky.f k (strOfNums l) = some (nextP h l) :=
  impl_next_aux _ k _ (2 * (h : Int)) _ _ (by rw [impl_good _ (by rw [son_size]; omega) k (by rw [son_size]; omega), g]) (impl_rank h h1 h2 l hd hl k (by omega)) (impl_lucky _ (by rw [son_size]; omega) k (by rw [son_size]; omega)) (by rw [son_size, hl]; omega) (impl_ofRank h h1 h2 (size_sizeB h h1 h2) _ k (by omega))

theorem ofRank_size (h : Nat) (h1 : 1 ≤ h) (h2 : h < 7) (r : Int) : (ofRank h r).1.size ≤ 12 := by
  unfold ofRank
  by_cases c : 0 ≤ r ∧ r < comp h []
  · rw [if_pos c]
    have := ranked_digs h h1 h2 (2 * h) [] r (by simp) (fun _ hx => by simp at hx) c.1 c.2
    simp only [son_size]
    omega
  · rw [if_neg c]
    simp [ByteArray.size]
theorem spec_gaps_j0 (h : Nat) (h1 : 1 ≤ h) (h2 : h < 7) (l : List Int) (hd : digs l) (hl : l.length = 2 * h) (g : good (strOfNums l) = true) (x y : Int) (k : Nat) (hk : 2301 ≤ k) : spec_GapsAround.j0 k (strOfNums l) x y = impl_GapsAround.j0 k (strOfNums l) x y := by
  obtain ⟨k, rfl⟩ : ∃ m, k = m + 1 := ⟨k - 1, by omega⟩
  simp only [spec_GapsAround.j0, impl_GapsAround.j0]
  rw [spec_next h h1 h2 l hd hl _ (by omega), impl_next h h1 h2 l hd hl g _ (by omega)]
  simp only [Option.bind_some]
  have hz := ofRank_size h h1 h2 (wrap64 (rankP h l + bitI (lucky (strOfNums l))))
  by_cases c : (nextP h l).2 = true
  · rw [if_pos c, if_pos c, spec_num _ (by unfold nextP; omega) _ (by unfold nextP; omega), impl_num _ (by unfold nextP; omega) _ (by unfold nextP; omega)]
    simp only [Option.bind_some]
    rw [spec_num _ (by rw [son_size]; omega) _ (by rw [son_size]; omega), impl_num _ (by rw [son_size]; omega) _ (by rw [son_size]; omega)]
  · rw [if_neg c, if_neg c]
theorem spec_gaps_some (h : Nat) (h1 : 1 ≤ h) (h2 : h < 7) (l : List Int) (hd : digs l) (hl : l.length = 2 * h) (g : good (strOfNums l) = true) (x y : Int) (k : Nat) (hk : 2301 ≤ k) : ∃ r, impl_GapsAround.j0 k (strOfNums l) x y = some r := by
  obtain ⟨k, rfl⟩ : ∃ m, k = m + 1 := ⟨k - 1, by omega⟩
  simp only [impl_GapsAround.j0]
  rw [impl_next h h1 h2 l hd hl g _ (by omega)]
  simp only [Option.bind_some]
  have hz := ofRank_size h h1 h2 (wrap64 (rankP h l + bitI (lucky (strOfNums l))))
  by_cases c : (nextP h l).2 = true
  · rw [if_pos c, impl_num _ (by unfold nextP; omega) _ (by unfold nextP; omega)]
    simp only [Option.bind_some]
    rw [impl_num _ (by rw [son_size]; omega) _ (by rw [son_size]; omega)]
    exact ⟨_, rfl⟩
  · rw [if_neg c]
    exact ⟨_, rfl⟩
theorem FnExactGapsAround : laws_FnExactGapsAround.Pure := by
  intro s hs
  by_cases hz : (s.size : Int) > 1048576
  · refine ⟨0, ?_⟩
    unfold laws_FnExactGapsAround.f
    rw [if_pos hz]
  · refine ⟨s.size + 2400, ?_⟩
    unfold laws_FnExactGapsAround.f
    rw [if_neg hz]
    unfold spec_GapsAround.f impl_GapsAround.f
    rw [spec_good s (by omega) _ (by omega), impl_good s (by omega) _ (by omega)]
    simp only [Option.bind_some]
    by_cases g : good s = true
    · rw [if_pos g, if_pos g]
      obtain ⟨h, l, h1, h2, hl, hd, rfl⟩ := good_digs g
      rw [spec_last h h1 h2 l hd hl _ (by omega), impl_last h h1 h2 l hd hl g _ (by omega)]
      simp only [Option.bind_some]
      have hy := ofRank_size h h1 h2 (wrap64 (rankP h l - 1))
      by_cases c : (lastP h l).2 = true
      · rw [if_pos c, if_pos c, spec_num _ (by rw [son_size]; omega) _ (by omega), impl_num _ (by rw [son_size]; omega) _ (by omega)]
        simp only [Option.bind_some]
        rw [spec_num _ (by unfold lastP; omega) _ (by unfold lastP; omega), impl_num _ (by unfold lastP; omega) _ (by unfold lastP; omega)]
        simp only [Option.bind_some]
        rw [spec_gaps_j0 h h1 h2 l hd hl g _ _ _ (by omega)]
        obtain ⟨r, hr⟩ := spec_gaps_some h h1 h2 l hd hl g (wrap64 (dnum (strOfNums l) - dnum (lastP h l).1)) 0 ((strOfNums l).size + 2400) (by omega)
        rw [hr]
        simp
      · rw [if_neg c, if_neg c, spec_gaps_j0 h h1 h2 l hd hl g _ _ _ (by omega)]
        obtain ⟨r, hr⟩ := spec_gaps_some h h1 h2 l hd hl g 0 0 ((strOfNums l).size + 2400) (by omega)
        rw [hr]
        simp
    · rw [if_neg g, if_neg g]
      simp

end Go.Proofs.Ytfcckbkmkpinbaa.Pure
