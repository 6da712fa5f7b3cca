/- For every text the program's LuckyDigits and the reference's answer alike: the plain law, without conditions. -/
import Derived.Test.YtfcckbkmkpinbaaPFnExactLuckyDigitsx3
set_option linter.unusedVariables false
set_option linter.unusedSimpArgs false
namespace Go.Proofs.Ytfcckbkmkpinbaa.Pure
open Go.RowKit Go.Proofs.Ytfcckbkmkpinbaa.PFnExactLuckyDigits Go.Proofs.YtfcckbkmkpinbaaW.PrintWords Go.Proofs.YtfcckbkmkpinbaaW.PrintLast Go.Proofs.YtfcckbkmkpinbaaW.PrintMore

theorem wrap_id {x : Int} (h0 : -9223372036854775808 ≤ x) (h1 : x < 9223372036854775808) : wrap64 x = x := by
  unfold wrap64
  omega
theorem lit_wf {x : Int} (h : (Lit.int .i64 x).wf = true) : -9223372036854775808 ≤ x ∧ x < 9223372036854775808 := by
  have h2 := h
  simp [Lit.wf, IntKind.min, IntKind.max, IntKind.bits, IntKind.signed] at h2
  omega
theorem wrap_add (x y : Int) : wrap64 (wrap64 x + y) = wrap64 (x + y) := by
  have e : ∀ (m c : Int), ((x + c) % m - c + y + c) % m = (x + y + c) % m := fun m c => by
    have h1 : (x + c) % m - c + y + c = (x + c) % m + y := by generalize (x + c) % m = q; omega
    rw [h1, Int.emod_add_emod, show x + c + y = x + y + c by omega]
  unfold wrap64
  rw [e]
theorem wrap_sub (x y : Int) : wrap64 (wrap64 x - y) = wrap64 (x - y) := by
  rw [Int.sub_eq_add_neg, wrap_add, Int.sub_eq_add_neg]

def allFrom (s : ByteArray) : Nat → Nat → Bool
  | 0, _ => true
  | d + 1, i => if bt s i < 48 then false else if bt s i > 57 then false else allFrom s d (i + 1)
theorem allFrom_bt (s : ByteArray) : ∀ (d i : Nat), allFrom s d i = true → ∀ j : Nat, i ≤ j → j < i + d → 48 ≤ bt s j ∧ bt s j ≤ 57
  | 0, i, _, j, h1, h2 => by omega
  | d + 1, i, h, j, h1, h2 => by
    unfold allFrom at h
    by_cases c1 : bt s i < 48
    · rw [if_pos c1] at h; cases h
    · rw [if_neg c1] at h
      by_cases c2 : bt s i > 57
      · rw [if_pos c2] at h; cases h
      · rw [if_neg c2] at h
        by_cases e : j = i
        · subst e; omega
        · exact allFrom_bt s d (i + 1) h j (by omega) (by omega)
def good (s : ByteArray) : Bool := decide (2 ≤ s.size) && decide (s.size ≤ 12) && (s.size % 2 == 0) && allFrom s s.size 0
theorem good_size {s : ByteArray} (h : good s = true) : 2 ≤ s.size ∧ s.size ≤ 12 ∧ s.size % 2 = 0 := by
  simp [good] at h; omega
theorem good_bt {s : ByteArray} (h : good s = true) (j : Nat) (hj : j < s.size) : 48 ≤ bt s j ∧ bt s j ≤ 57 := by
  simp only [good, Bool.and_eq_true] at h
  exact allFrom_bt s s.size 0 h.2 j (by omega) (by omega)
theorem spec_size (n : Int) : spec_tkSize.f n = some (decide (2 ≤ n) && decide (n ≤ 12) && (Int.tmod n 2 == 0)) := by
  unfold spec_tkSize.f spec_l1In.f
  by_cases h1 : n ≥ 2
  · rw [if_pos h1]; simp only [Option.bind_some]
    by_cases h2 : n ≤ 12 <;> simp [h1, h2]
  · rw [if_neg h1]; simp; omega
theorem spec_good_l0 (s : ByteArray) (hn : s.size ≤ 1048576) : ∀ (d i k : Nat), i + d = s.size → d < k → spec_tkGood.l0 k s i = some (allFrom s d i)
  | 0, i, k, h, hk => by
    obtain ⟨k, rfl⟩ : ∃ m, k = m + 1 := ⟨k - 1, by omega⟩
    simp only [spec_tkGood.l0, allFrom]
    rw [if_neg (by omega)]
  | d + 1, i, k, h, hk => by
    obtain ⟨k, rfl⟩ : ∃ m, k = m + 1 := ⟨k - 1, by omega⟩
    simp only [spec_tkGood.l0, allFrom]
    rw [if_pos (by omega), if_pos (by omega)]
    by_cases c1 : bt s i < 48
    · rw [if_pos c1, if_pos c1]
    · rw [if_neg c1, if_neg c1]
      by_cases c2 : bt s i > 57
      · rw [if_pos c2, if_pos c2]
      · rw [if_neg c2, if_neg c2, wrap_id (by omega) (by omega)]
        exact spec_good_l0 s hn d (i + 1) k (by omega) (by omega)
theorem spec_good (s : ByteArray) (hn : s.size ≤ 1048576) (k : Nat) (hk : s.size < k) : spec_tkGood.f k s = some (good s) := by
  unfold spec_tkGood.f
  rw [spec_size]; simp only [Option.bind_some]
  have e : (Int.tmod (s.size : Int) 2 == 0) = (s.size % 2 == 0) := by
    rw [Bool.eq_iff_iff, beq_iff_eq, beq_iff_eq, Int.tmod_eq_emod_of_nonneg (by omega)]
    omega
  by_cases h1 : 2 ≤ s.size ∧ s.size ≤ 12 ∧ s.size % 2 = 0
  · rw [if_pos (by simp [e]; omega)]
    have := spec_good_l0 s hn s.size 0 k (by omega) hk
    rw [show ((0 : Nat) : Int) = 0 from rfl] at this
    rw [this]
    simp [good]; omega
  · rw [if_neg (by simp [e]; omega)]
    congr 1
    simp [good]
    omega
theorem impl_digits_l0 (s : ByteArray) (lo hi : Int) (hn : s.size ≤ 1048576) : ∀ (d i k : Nat), i + d = s.size → d < k →
    impl_areDigits.l0 k s lo hi s.size i = some (allFrom s d i && (decide (lo ≤ s.size) && decide ((s.size : Int) ≤ hi)))
  | 0, i, k, h, hk => by
    obtain ⟨k, rfl⟩ : ∃ m, k = m + 1 := ⟨k - 1, by omega⟩
    simp only [impl_areDigits.l0, allFrom]
    rw [if_neg (by omega)]
    unfold impl_within.f
    by_cases c : lo ≤ (s.size : Int)
    · rw [if_pos c]; simp [c]
    · rw [if_neg c]; simp [c]
  | d + 1, i, k, h, hk => by
    obtain ⟨k, rfl⟩ : ∃ m, k = m + 1 := ⟨k - 1, by omega⟩
    simp only [impl_areDigits.l0, allFrom]
    rw [if_pos (by omega), if_pos (by omega), if_pos (by omega)]
    by_cases c1 : bt s i < 48
    · rw [if_pos c1, if_pos c1]; rfl
    · rw [if_neg c1, if_neg c1]
      by_cases c2 : bt s i > 57
      · rw [if_pos c2, if_pos c2]; rfl
      · rw [if_neg c2, if_neg c2, wrap_id (by omega) (by omega)]
        exact impl_digits_l0 s lo hi hn d (i + 1) k (by omega) (by omega)
theorem impl_digits (s : ByteArray) (lo hi : Int) (hn : s.size ≤ 1048576) (k : Nat) (hk : s.size < k) :
    impl_areDigits.f k s lo hi = some (allFrom s s.size 0 && (decide (lo ≤ s.size) && decide ((s.size : Int) ≤ hi))) := by
  unfold impl_areDigits.f
  exact impl_digits_l0 s lo hi hn s.size 0 k (by omega) hk
theorem impl_good (s : ByteArray) (hn : s.size ≤ 1048576) (k : Nat) (hk : s.size < k) : impl_IsTicket.f k s = some (good s) := by
  unfold impl_IsTicket.f
  rw [impl_digits s 2 12 hn k hk]; simp only [Option.bind_some]
  by_cases h : allFrom s s.size 0 = true ∧ 2 ≤ s.size ∧ s.size ≤ 12
  · rw [if_pos (by simp [h.1]; omega)]
    congr 1
    simp only [good, h.1, h.2.1, h.2.2, decide_true, Bool.true_and, Bool.and_true]
    rw [Bool.eq_iff_iff, beq_iff_eq, beq_iff_eq]; omega
  · rw [if_neg (by simp; intro a b; exact Int.not_le.mp fun c => h ⟨a, by omega, by omega⟩)]
    congr 1
    symm
    rw [← Bool.not_eq_true]
    intro g
    have := good_size g
    simp only [good, Bool.and_eq_true] at g
    exact h ⟨g.2, this.1, this.2.1⟩

def sumL (s : ByteArray) : Nat → Nat → Int → Int
  | 0, _, acc => acc
  | d + 1, i, acc => sumL s d (i + 1) (wrap64 (acc + ((bt s i - 48) % 256)))
def dsum (s : ByteArray) : Int := sumL s s.size 0 0
theorem spec_sum_l0 (s : ByteArray) (hn : s.size ≤ 1048576) : ∀ (d i k : Nat) (acc : Int), i + d = s.size → d < k → spec_tkSum.l0 k s acc i = some (sumL s d i acc)
  | 0, i, k, acc, h, hk => by
    obtain ⟨k, rfl⟩ : ∃ m, k = m + 1 := ⟨k - 1, by omega⟩
    simp only [spec_tkSum.l0, sumL]
    rw [if_neg (by omega)]
  | d + 1, i, k, acc, h, hk => by
    obtain ⟨k, rfl⟩ : ∃ m, k = m + 1 := ⟨k - 1, by omega⟩
    simp only [spec_tkSum.l0, sumL]
    rw [if_pos (by omega), if_pos (by omega), wrap_id (x := (i : Int) + 1) (by omega) (by omega)]
    exact spec_sum_l0 s hn d (i + 1) k _ (by omega) (by omega)
theorem spec_sum (s : ByteArray) (hn : s.size ≤ 1048576) (k : Nat) (hk : s.size < k) : spec_tkSum.f k s = some (dsum s) := by
  unfold spec_tkSum.f
  exact spec_sum_l0 s hn s.size 0 k 0 (by omega) hk
theorem impl_sum_l0 (s : ByteArray) (hn : s.size ≤ 1048576) : ∀ (d i k : Nat) (acc : Int), i + d = s.size → d < k → impl_sumOf.l0 k s acc s.size i = some (sumL s d i acc)
  | 0, i, k, acc, h, hk => by
    obtain ⟨k, rfl⟩ : ∃ m, k = m + 1 := ⟨k - 1, by omega⟩
    simp only [impl_sumOf.l0, sumL]
    rw [if_neg (by omega)]
  | d + 1, i, k, acc, h, hk => by
    obtain ⟨k, rfl⟩ : ∃ m, k = m + 1 := ⟨k - 1, by omega⟩
    simp only [impl_sumOf.l0, sumL]
    rw [if_pos (by omega), if_pos (by omega), if_pos (by omega), wrap_id (x := (i : Int) + 1) (by omega) (by omega)]
    exact impl_sum_l0 s hn d (i + 1) k _ (by omega) (by omega)
theorem impl_sum (s : ByteArray) (hn : s.size ≤ 1048576) (k : Nat) (hk : s.size < k) : impl_sumOf.f k s = some (dsum s) := by
  unfold impl_sumOf.f
  exact impl_sum_l0 s hn s.size 0 k 0 (by omega) hk

def hA (s : ByteArray) : ByteArray := s.extract 0 (s.size / 2)
def hB (s : ByteArray) : ByteArray := s.extract (s.size / 2) s.size
theorem hA_size (s : ByteArray) : (hA s).size = s.size / 2 := by unfold hA; rw [ByteArray.size_extract]; omega
theorem hB_size (s : ByteArray) : (hB s).size = s.size - s.size / 2 := by unfold hB; rw [ByteArray.size_extract]; omega
theorem impl_halves_eq (s : ByteArray) (hn : s.size ≤ 1048576) : impl_halves.f s = some (hA s, hB s) := by
  unfold impl_halves.f hA hB
  rw [wrap_id (x := (s.size : Int) / 2) (by omega) (by omega)]
  have e1 : ((s.size : Int) / 2).toNat = s.size / 2 := by omega
  rw [e1, if_pos (by omega), if_pos (by omega)]
theorem spec_halves_eq (s : ByteArray) (hn : s.size ≤ 1048576) (k : Nat) (hk : s.size < k) : spec_tkHalves.f k s = some (dsum (hA s), dsum (hB s)) := by
  unfold spec_tkHalves.f
  rw [wrap_id (x := (s.size : Int) / 2) (by omega) (by omega)]
  have e1 : ((s.size : Int) / 2).toNat = s.size / 2 := by omega
  rw [e1, if_pos (by omega), if_pos (by omega)]
  have a1 := hA_size s
  have a2 := hB_size s
  have b1 := spec_sum (hA s) (by omega) k (by omega)
  have b2 := spec_sum (hB s) (by omega) k (by omega)
  unfold hA at b1
  unfold hB at b2
  rw [b1]; simp only [Option.bind_some]
  rw [b2]; simp only [Option.bind_some]
  rfl

def lucky (s : ByteArray) : Bool := dsum (hA s) == dsum (hB s)
theorem spec_lucky (s : ByteArray) (hn : s.size ≤ 1048576) (k : Nat) (hk : s.size < k) : spec_tkLucky.f k s = some (lucky s) := by
  unfold spec_tkLucky.f
  rw [spec_halves_eq s hn k hk]
  rfl
theorem son_size (l : List Int) : (strOfNums l).size = l.length := by simp [strOfNums, ByteArray.size]
theorem son_nil : (⟨#[]⟩ : ByteArray) = strOfNums [] := rfl
theorem son_append (l m : List Int) : strOfNums l ++ strOfNums m = strOfNums (l ++ m) := by
  apply ByteArray.ext
  simp [strOfNums]
theorem son_extract (l : List Int) (i j : Nat) : (strOfNums l).extract i j = strOfNums ((l.take j).drop i) := by
  apply ByteArray.ext
  rw [ByteArray.data_extract]
  apply Array.ext'
  simp [strOfNums, Array.toList_extract, List.extract, List.map_take, List.map_drop, List.drop_take]
def byts (l : List Int) : Prop := ∀ c ∈ l, 0 ≤ c ∧ c < 256
theorem son_bt (l : List Int) (h : byts l) (i : Nat) (hi : i < l.length) : bt (strOfNums l) i = l[i] := by
  unfold bt
  have h1 : (i : Int).toNat < (strOfNums l).size := by rw [son_size]; simpa using hi
  rw [dif_pos h1]
  have h2 := h l[i] (List.getElem_mem hi)
  have h3 : ((strOfNums l)[(i : Int).toNat]'h1) = UInt8.ofNat (l[i]).toNat := by
    show (strOfNums l).data[(i : Int).toNat] = _
    simp [strOfNums]
  rw [h3]
  simp
  omega
theorem bytesOf_byts (s : ByteArray) : byts (bytesOf s) := by
  intro c hc
  simp only [bytesOf, List.mem_map] at hc
  obtain ⟨b, _, rfl⟩ := hc
  have := b.toNat_lt
  omega
theorem son_bytesOf (s : ByteArray) : strOfNums (bytesOf s) = s := by
  apply ByteArray.ext
  apply Array.ext'
  simp [strOfNums, bytesOf, Function.comp_def]
def digs (l : List Int) : Prop := ∀ c ∈ l, 48 ≤ c ∧ c ≤ 57
theorem digs_byts {l : List Int} (h : digs l) : byts l := fun c hc => by have := h c hc; omega
theorem digs_append {l m : List Int} (h : digs l) (k : digs m) : digs (l ++ m) := fun c hc => by
  rcases List.mem_append.mp hc with hc | hc
  · exact h c hc
  · exact k c hc
theorem digs_one {c : Int} (h : 48 ≤ c ∧ c ≤ 57) : digs [c] := fun x hx => by simp at hx; subst hx; exact h
theorem digs_take {l : List Int} (h : digs l) (n : Nat) : digs (l.take n) := fun c hc => h c (List.mem_of_mem_take hc)
theorem digs_drop {l : List Int} (h : digs l) (n : Nat) : digs (l.drop n) := fun c hc => h c (List.mem_of_mem_drop hc)
def sN : List Int → Int
  | [] => 0
  | c :: l => (c - 48) + sN l
theorem sN_append (l m : List Int) : sN (l ++ m) = sN l + sN m := by
  induction l with
  | nil => simp [sN]
  | cons c l ih => simp [sN, ih]; omega
theorem sN_range (l : List Int) (h : digs l) : 0 ≤ sN l ∧ sN l ≤ 9 * l.length := by
  induction l with
  | nil => simp [sN]
  | cons c l ih =>
    have h1 := h c (by simp)
    have h2 := ih (fun x hx => h x (by simp [hx]))
    simp [sN]; omega

theorem sumL_sN (l : List Int) (h : digs l) (hl : l.length ≤ 1048576) : ∀ (d i : Nat) (acc : Int), i + d = l.length → 0 ≤ acc → acc ≤ 9 * i →
    sumL (strOfNums l) d i acc = acc + sN (l.drop i)
  | 0, i, acc, e, _, _ => by
    rw [List.drop_of_length_le (by omega)]
    simp [sumL, sN]
  | d + 1, i, acc, e, h0, h1 => by
    have hi : i < l.length := by omega
    have hc := h l[i] (List.getElem_mem hi)
    rw [List.drop_eq_getElem_cons hi]
    simp only [sumL, sN]
    rw [son_bt l (digs_byts h) i hi]
    have e1 : wrap64 (acc + (l[i] - 48) % 256) = acc + (l[i] - 48) := by unfold wrap64; omega
    rw [e1, sumL_sN l h hl d (i + 1) _ (by omega) (by omega) (by omega)]
    omega
theorem dsum_sN (l : List Int) (h : digs l) (hl : l.length ≤ 1048576) : dsum (strOfNums l) = sN l := by
  unfold dsum
  rw [son_size, sumL_sN l h hl l.length 0 0 (by omega) (by omega) (by omega)]
  simp
theorem spec_sumN (l : List Int) (h : digs l) (hl : l.length ≤ 1048576) (k : Nat) (hk : l.length < k) : spec_tkSum.f k (strOfNums l) = some (sN l) := by
  rw [spec_sum _ (by rw [son_size]; exact hl) k (by rw [son_size]; exact hk), dsum_sN l h hl]
theorem impl_sumN (l : List Int) (h : digs l) (hl : l.length ≤ 1048576) (k : Nat) (hk : l.length < k) : impl_sumOf.f k (strOfNums l) = some (sN l) := by
  rw [impl_sum _ (by rw [son_size]; exact hl) k (by rw [son_size]; exact hk), dsum_sN l h hl]

def upL : Nat → Int → List Int
  | 0, _ => []
  | n + 1, s => s :: upL n (s + 1)
theorem upL_len : ∀ (n : Nat) (s : Int), (upL n s).length = n
  | 0, _ => rfl
  | n + 1, s => by simp [upL, upL_len n]
theorem eqInt_l0 (l : List Int) (hl : l.length ≤ 1048576) : ∀ (d i k : Nat), i + d = l.length → d < k → laws_eqIntS.l0 k l l i = some true
  | 0, i, k, e, hk => by
    obtain ⟨k, rfl⟩ : ∃ m, k = m + 1 := ⟨k - 1, by omega⟩
    simp only [laws_eqIntS.l0]
    rw [if_neg (by omega)]
  | d + 1, i, k, e, hk => by
    obtain ⟨k, rfl⟩ : ∃ m, k = m + 1 := ⟨k - 1, by omega⟩
    simp only [laws_eqIntS.l0]
    rw [if_pos (by omega), if_pos (by omega), if_pos (by omega), if_true, wrap_id (by omega) (by omega)]
    exact eqInt_l0 l hl d (i + 1) k (by omega) (by omega)
theorem eqInt_self (l : List Int) (hl : l.length ≤ 1048576) (k : Nat) (hk : l.length < k) : laws_eqIntS.f k l l = some true := by
  unfold laws_eqIntS.f
  rw [if_pos rfl]
  exact eqInt_l0 l hl l.length 0 k (by omega) hk
theorem markInt_l0 : ∀ (rest pre : List Int) (s : Int) (k : Nat), pre.length + rest.length ≤ 1048576 → 0 ≤ s → s + rest.length ≤ 4000000 → rest.length < k →
    laws_markIntS.l0 k (pre ++ rest) s pre.length = some (s + rest.length, pre ++ upL rest.length s)
  | [], pre, s, k, _, _, _, hk => by
    obtain ⟨k, rfl⟩ : ∃ m, k = m + 1 := ⟨k - 1, by omega⟩
    simp only [laws_markIntS.l0]
    rw [if_neg (by simp)]
    simp [upL]
  | c :: rest, pre, s, k, h1, h2, h3, hk => by
    obtain ⟨k, rfl⟩ : ∃ m, k = m + 1 := ⟨k - 1, by omega⟩
    simp only [List.length_cons] at h1 h3 hk
    simp only [laws_markIntS.l0]
    rw [if_pos (by simp; omega), if_pos (by omega), wrap_id (by omega) (by omega), wrap_id (by omega) (by omega)]
    have e : (pre ++ c :: rest).set ((pre.length : Int)).toNat s = (pre ++ [s]) ++ rest := by
      rw [Int.toNat_natCast, List.set_append_right _ _ (Nat.le_refl _)]
      simp
    have := markInt_l0 rest (pre ++ [s]) (s + 1) k (by simp; omega) (by omega) (by omega) (by omega)
    rw [e]
    simp only [List.length_append, List.length_cons, List.length_nil] at this ⊢
    rw [show ((pre.length : Int) + 1) = ((pre.length + (0 + 1) : Nat) : Int) by omega, this]
    simp [upL]
    omega
theorem markInt (l : List Int) (hl : l.length ≤ 1048576) (k : Nat) (hk : l.length < k) : laws_markIntS.f k l 1 = some (1 + (l.length : Int), upL l.length 1) := by
  unfold laws_markIntS.f
  exact markInt_l0 l [] 1 k (by simpa using hl) (by omega) (by omega) hk
theorem heldInt_l0 : ∀ (n : Nat) (pre : List Int) (s : Int) (k : Nat), pre.length + n ≤ 1048576 → 0 ≤ s → s + n ≤ 4000000 → n < k →
    laws_heldIntS.l0 k (pre ++ upL n s) s pre.length = some (s + n)
  | 0, pre, s, k, _, _, _, hk => by
    obtain ⟨k, rfl⟩ : ∃ m, k = m + 1 := ⟨k - 1, by omega⟩
    simp only [laws_heldIntS.l0]
    rw [if_neg (by simp [upL])]
    simp
  | n + 1, pre, s, k, h1, h2, h3, hk => by
    obtain ⟨k, rfl⟩ : ∃ m, k = m + 1 := ⟨k - 1, by omega⟩
    simp only [laws_heldIntS.l0]
    have e : rd (pre ++ upL (n + 1) s) (pre.length : Int) = s := by simp [rd, upL]
    have e2 : (pre ++ upL (n + 1) s) = (pre ++ [s]) ++ upL n (s + 1) := by simp [upL]
    rw [if_pos (by simp [upL_len]; omega), if_pos (by omega), if_pos e, wrap_id (by omega) (by omega), wrap_id (by omega) (by omega), e2]
    have := heldInt_l0 n (pre ++ [s]) (s + 1) k (by simp; omega) (by omega) (by omega) (by omega)
    simp only [List.length_append, List.length_cons, List.length_nil] at this
    rw [show ((pre.length : Int) + 1) = ((pre.length + (0 + 1) : Nat) : Int) by omega, this]
    congr 1
    omega
theorem heldInt (n : Nat) (hn : n ≤ 1048576) (k : Nat) (hk : n < k) : laws_heldIntS.f k (upL n 1) 1 = some (1 + (n : Int)) := by
  unfold laws_heldIntS.f
  exact heldInt_l0 n [] 1 k (by simpa using hn) (by omega) (by omega) hk

def ldL (p q : Int) : Nat → Nat → List Int → List Int
  | 0, _, acc => acc
  | d + 1, i, acc => ldL p q d (i + 1) (if p = q + i then acc ++ [(i : Int)] else acc)
theorem ldL_eq (p q : Int) : ∀ (d i : Nat) (acc : List Int), ldL p q d i acc = acc ++ (if q + i ≤ p ∧ p < q + i + d then [p - q] else [])
  | 0, i, acc => by
    rw [if_neg (by omega)]
    simp [ldL]
  | d + 1, i, acc => by
    simp only [ldL]
    rw [ldL_eq p q d (i + 1)]
    by_cases c : p = q + i
    · rw [if_pos c, if_neg (by omega), if_pos (by omega)]
      simp; omega
    · rw [if_neg c]
      by_cases c2 : q + i ≤ p ∧ p < q + i + (d + 1 : Nat)
      · rw [if_pos (by omega), if_pos c2]
      · rw [if_neg (by omega), if_neg c2]
/-- What a ticket with its last digit exchanged has for sums. -/
theorem lucky_next (l : List Int) (h : Nat) (h1 : 1 ≤ h) (hl : l.length + 1 = 2 * h) (hd : digs l) (hh : h < 7) (j : Nat) (hj : j < 10) : lucky (strOfNums (l ++ [48 + (j : Int)])) = (sN (l.take h) == sN (l.drop h) + j) := by
  have hd' : digs (l ++ [48 + (j : Int)]) := digs_append hd (digs_one (by omega))
  unfold lucky hA hB
  rw [son_size]
  simp only [List.length_append, List.length_cons, List.length_nil]
  rw [show (l.length + (0 + 1)) / 2 = h by omega, son_extract, son_extract]
  rw [dsum_sN _ (digs_drop (digs_take hd' _) _) (by simp; omega), dsum_sN _ (digs_drop (digs_take hd' _) _) (by simp; omega)]
  rw [List.drop_zero, show List.take (l.length + (0 + 1)) (l ++ [48 + (j : Int)]) = l ++ [48 + (j : Int)] from List.take_of_length_le (by simp), List.take_append_of_le_length (by omega), List.drop_append_of_le_length (by omega), sN_append]
  have e : sN [48 + (j : Int)] = j := by simp [sN]; omega
  rw [e]
theorem spec_l1Num_dig (j : Nat) (hj : j < 10) (k : Nat) (hk : 0 < k) : spec_l1Num.f k (j : Int) = some (strOfNums [48 + (j : Int)]) := by
  obtain ⟨k, rfl⟩ : ∃ m, k = m + 1 := ⟨k - 1, by omega⟩
  simp only [spec_l1Num.f]
  rw [if_pos (by omega)]
  congr 3
  unfold wrap64
  omega
theorem spec_ld_l0 (l : List Int) (c : Int) (h : Nat) (h1 : 1 ≤ h) (hl : l.length + 1 = 2 * h) (hd : digs l) (hh : h < 7) : ∀ (d i k : Nat) (acc : List Int), i + d = 10 → acc.length ≤ i → 100 + d < k →
    spec_LuckyDigits.l0 k (strOfNums (l ++ [c])) acc i = some (ldL (sN (l.take h)) (sN (l.drop h)) d i acc, true)
  | 0, i, k, acc, e, _, hk => by
    obtain ⟨k, rfl⟩ : ∃ m, k = m + 1 := ⟨k - 1, by omega⟩
    simp only [spec_LuckyDigits.l0, ldL]
    rw [if_neg (by omega)]
  | d + 1, i, k, acc, e, ha, hk => by
    obtain ⟨k, rfl⟩ : ∃ m, k = m + 1 := ⟨k - 1, by omega⟩
    simp only [spec_LuckyDigits.l0, ldL]
    have e1 : wrap64 (((strOfNums (l ++ [c])).size : Int) - 1) = (l.length : Int) := by
      rw [son_size, List.length_append]
      simp only [List.length_cons, List.length_nil]
      unfold wrap64
      omega
    have e2 : (strOfNums (l ++ [c])).extract 0 l.length = strOfNums l := by
      rw [son_extract, List.drop_zero, List.take_append_of_le_length (Nat.le_refl _), List.take_length]
    have hz : (l.length : Int) ≤ ((strOfNums (l ++ [c])).size : Int) := by rw [son_size]; simp; omega
    rw [e1, if_pos (by omega), if_pos (by omega), if_pos hz, spec_l1Num_dig i (by omega) k (by omega)]
    simp only [Option.bind_some]
    rw [Int.toNat_natCast, e2, if_pos (by rw [son_size, son_size]; simp; omega), son_append, spec_lucky _ (by rw [son_size]; simp; omega) k (by rw [son_size]; simp; omega)]
    simp only [Option.bind_some]
    rw [lucky_next l h h1 hl hd hh i (by omega)]
    rw [wrap_id (x := (i : Int) + 1) (by omega) (by omega)]
    by_cases t : sN (l.take h) = sN (l.drop h) + i
    · rw [if_pos (by simpa using t), if_pos (by omega), if_pos t]
      exact spec_ld_l0 l c h h1 hl hd hh d (i + 1) k _ (by omega) (by simp; omega) (by omega)
    · rw [if_neg (by simpa using t), if_neg t]
      exact spec_ld_l0 l c h h1 hl hd hh d (i + 1) k _ (by omega) (by omega) (by omega)
theorem good_list {s : ByteArray} (g : good s = true) : ∃ (h : Nat) (l : List Int) (c : Int), 1 ≤ h ∧ h < 7 ∧ l.length + 1 = 2 * h ∧ digs (l ++ [c]) ∧ s = strOfNums (l ++ [c]) := by
  have hz := good_size g
  have hb := bytesOf_length s
  have hd : digs (bytesOf s) := by
    intro x hx
    obtain ⟨i, hi, rfl⟩ := List.getElem_of_mem hx
    have := good_bt g i (by omega)
    rw [← rd_bytesOf] at this
    simpa [rd, hi] using this
  have hne : bytesOf s ≠ [] := by intro e; rw [e] at hb; simp at hb; omega
  refine ⟨s.size / 2, (bytesOf s).dropLast, (bytesOf s).getLast hne, by omega, by omega, ?_, ?_, ?_⟩
  · rw [List.length_dropLast]; omega
  · rw [List.dropLast_concat_getLast]; exact hd
  · rw [List.dropLast_concat_getLast, son_bytesOf]
theorem impl_ld (l : List Int) (c : Int) (h : Nat) (h1 : 1 ≤ h) (hl : l.length + 1 = 2 * h) (hd : digs l) (hh : h < 7) (g : good (strOfNums (l ++ [c])) = true) (k : Nat) (hk : 100 < k) :
    impl_LuckyDigits.f k (strOfNums (l ++ [c])) = some (ldL (sN (l.take h)) (sN (l.drop h)) 10 0 [], true) := by
  unfold impl_LuckyDigits.f
  rw [impl_good _ (by rw [son_size]; simp; omega) k (by rw [son_size]; simp; omega)]
  simp only [Option.bind_some]
  have e1 : wrap64 (((strOfNums (l ++ [c])).size : Int) - 1) = (l.length : Int) := by
    rw [son_size, List.length_append]
    simp only [List.length_cons, List.length_nil]
    unfold wrap64
    omega
  have e2 : (strOfNums (l ++ [c])).extract 0 l.length = strOfNums l := by
    rw [son_extract, List.drop_zero, List.take_append_of_le_length (Nat.le_refl _), List.take_length]
  have hz : (l.length : Int) ≤ ((strOfNums (l ++ [c])).size : Int) := by rw [son_size]; simp; omega
  have hd' : digs (l ++ [48]) := digs_append hd (digs_one (by omega))
  rw [if_pos g, e1, if_pos (by omega), if_pos hz, Int.toNat_natCast, e2, if_pos (by rw [son_size]; omega)]
  rw [show (⟨#[48]⟩ : ByteArray) = strOfNums [48] from rfl, son_append, impl_halves_eq _ (by rw [son_size]; simp; omega)]
  simp only [Option.bind_some]
  unfold hA hB
  rw [son_size]
  simp only [List.length_append, List.length_cons, List.length_nil]
  rw [show (l.length + (0 + 1)) / 2 = h by omega, son_extract, son_extract]
  rw [impl_sumN _ (digs_drop (digs_take hd' _) _) (by simp; omega) k (by simp; omega)]
  simp only [Option.bind_some]
  rw [impl_sumN _ (digs_drop (digs_take hd' _) _) (by simp; omega) k (by simp; omega)]
  simp only [Option.bind_some]
  rw [List.drop_zero, show List.take (l.length + (0 + 1)) (l ++ [(48 : Int)]) = l ++ [(48 : Int)] from List.take_of_length_le (by simp), List.take_append_of_le_length (by omega), List.drop_append_of_le_length (by omega), sN_append]
  have e : sN [(48 : Int)] = 0 := by simp [sN]
  have r1 := sN_range _ (digs_take hd h)
  have r2 := sN_range _ (digs_drop hd h)
  simp only [List.length_take, List.length_drop] at r1 r2
  rw [e, Int.add_zero, wrap_id (by omega) (by omega), ldL_eq]
  unfold impl_within.f
  by_cases c0 : 0 ≤ sN (l.take h) - sN (l.drop h)
  · rw [if_pos c0]; simp only [Option.bind_some]
    by_cases c9 : sN (l.take h) - sN (l.drop h) ≤ 9
    · rw [if_pos (by simpa using c9), if_pos (by omega)]
      simp
    · rw [if_neg (by simpa using c9), if_neg (by omega)]
      simp
  · rw [if_neg c0]; simp only [Option.bind_some]
    rw [if_neg (by simp), if_neg (by omega)]
    simp
theorem ldL_len (p q : Int) : (ldL p q 10 0 []).length ≤ 1 := by
  rw [ldL_eq]
  split <;> simp
theorem ld_end (k : Nat) (hk : 200 ≤ k) (s : ByteArray) (l : List Int) (b : Bool) (hl : l.length ≤ 1) (hi : impl_LuckyDigits.f (k - 1) s = some (l, b)) : laws_FnExactLuckyDigits.j0 k s l b l (b != b) = some true := by
  obtain ⟨k, rfl⟩ : ∃ m, k = m + 2 := ⟨k - 2, by omega⟩
  rw [show k + 2 - 1 = k + 1 by omega] at hi
  simp only [laws_FnExactLuckyDigits.j0, bne_self_eq_false]
  rw [if_neg (by simp), markInt l (by omega) _ (by omega)]
  simp only [Option.bind_some]
  rw [heldInt _ (by omega) _ (by omega)]
  simp only [Option.bind_some]
  rw [if_neg (by omega)]
  simp only [if_true]
  rw [hi]
  simp only [Option.bind_some]
  rw [eqInt_self l (by omega) _ (by omega)]
  simp only [Option.bind_some, if_true, bne_self_eq_false, laws_FnExactLuckyDigits.j1]
  rw [if_neg (by simp), heldInt _ (by omega) _ (by omega)]
  simp only [Option.bind_some, if_true]
  rw [if_neg (by omega)]
theorem FnExactLuckyDigits : laws_FnExactLuckyDigits.Pure := by
  intro s hs
  by_cases hz : (s.size : Int) > 1048576
  · refine ⟨0, ?_⟩
    unfold laws_FnExactLuckyDigits.f
    rw [if_pos hz]
  · refine ⟨s.size + 300, ?_⟩
    unfold laws_FnExactLuckyDigits.f
    rw [if_neg hz]
    by_cases g : good s = true
    · obtain ⟨h, l, c, h1, h2, hl, hd, rfl⟩ := good_list g
      have hdl : digs l := fun x hx => hd x (by simp [hx])
      have S : ∀ k, 200 ≤ k → spec_LuckyDigits.f k (strOfNums (l ++ [c])) = some (ldL (sN (l.take h)) (sN (l.drop h)) 10 0 [], true) := fun k hk => by
        unfold spec_LuckyDigits.f
        rw [spec_good _ (by rw [son_size]; simp; omega) _ (by rw [son_size]; simp; omega)]
        simp only [Option.bind_some]
        rw [if_pos g]
        exact spec_ld_l0 l c h h1 hl hdl h2 10 0 k [] (by omega) (by simp) (by omega)
      have I : ∀ k, 200 ≤ k → impl_LuckyDigits.f k (strOfNums (l ++ [c])) = some (ldL (sN (l.take h)) (sN (l.drop h)) 10 0 [], true) := fun k hk => impl_ld l c h h1 hl hdl h2 g k (by omega)
      have hn := ldL_len (sN (l.take h)) (sN (l.drop h))
      rw [S _ (by omega), I _ (by omega)]
      simp only [Option.bind_some]
      rw [eqInt_self _ (by omega) _ (by omega)]
      simp only [Option.bind_some, if_true]
      exact ld_end _ (by omega) _ _ _ hn (I _ (by omega))
    · have S : ∀ k, s.size < k → spec_LuckyDigits.f k s = some ([], false) := fun k hk => by
        unfold spec_LuckyDigits.f
        rw [spec_good _ (by omega) _ hk]
        simp only [Option.bind_some]
        rw [if_neg g]
      have I : ∀ k, s.size < k → impl_LuckyDigits.f k s = some ([], false) := fun k hk => by
        unfold impl_LuckyDigits.f
        rw [impl_good _ (by omega) _ hk]
        simp only [Option.bind_some]
        rw [if_neg g]
      rw [S _ (by omega), I _ (by omega)]
      simp only [Option.bind_some]
      rw [eqInt_self _ (by simp) _ (by simp)]
      simp only [Option.bind_some, if_true]
      exact ld_end _ (by omega) _ _ _ (by simp) (I _ (by omega))

end Go.Proofs.Ytfcckbkmkpinbaa.Pure
