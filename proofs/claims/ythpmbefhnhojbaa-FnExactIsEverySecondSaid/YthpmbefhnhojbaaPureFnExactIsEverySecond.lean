/- For every text the program's IsEverySecond and the reference's answer alike: the plain law, without conditions. -/
import Derived.Test.YthpmbefhnhojbaaPFnExactIsEverySecondx1
set_option linter.unusedVariables false
set_option linter.unusedSimpArgs false
namespace Go.Proofs.Ythpmbefhnhojbaa.Pure
open Go.RowKit Go.Proofs.Ythpmbefhnhojbaa.PFnExactIsEverySecond Go.Proofs.YthpmbefhnhojbaaW.PrintWords Go.Proofs.YthpmbefhnhojbaaW.PrintLast Go.Proofs.YthpmbefhnhojbaaW.PrintMore

theorem wrap_id {x : Int} (h0 : -9223372036854775808 ≤ x) (h1 : x < 9223372036854775808) : wrap64 x = x := by
  unfold wrap64
  omega
theorem lit_wf {x : Int} (h : (Lit.int .i64 x).wf = true) : -9223372036854775808 ≤ x ∧ x < 9223372036854775808 := by
  have h2 := h
  simp [Lit.wf, IntKind.min, IntKind.max, IntKind.bits, IntKind.signed] at h2
  omega
theorem wrap_add (x y : Int) : wrap64 (wrap64 x + y) = wrap64 (x + y) := by
  have e : ∀ (m c : Int), ((x + c) % m - c + y + c) % m = (x + y + c) % m := fun m c => by
    have h1 : (x + c) % m - c + y + c = (x + c) % m + y := by generalize (x + c) % m = q; omega
    rw [h1, Int.emod_add_emod, show x + c + y = x + y + c by omega]
  unfold wrap64
  rw [e]
theorem wrap_sub (x y : Int) : wrap64 (wrap64 x - y) = wrap64 (x - y) := by
  rw [Int.sub_eq_add_neg, wrap_add, Int.sub_eq_add_neg]

def allFrom (s : ByteArray) : Nat → Nat → Bool
  | 0, _ => true
  | d + 1, i => if bt s i < 48 then false else if bt s i > 57 then false else allFrom s d (i + 1)
theorem allFrom_bt (s : ByteArray) : ∀ (d i : Nat), allFrom s d i = true → ∀ j : Nat, i ≤ j → j < i + d → 48 ≤ bt s j ∧ bt s j ≤ 57
  | 0, i, _, j, h1, h2 => by omega
  | d + 1, i, h, j, h1, h2 => by
    unfold allFrom at h
    by_cases c1 : bt s i < 48
    · rw [if_pos c1] at h; cases h
    · rw [if_neg c1] at h
      by_cases c2 : bt s i > 57
      · rw [if_pos c2] at h; cases h
      · rw [if_neg c2] at h
        by_cases e : j = i
        · subst e; omega
        · exact allFrom_bt s d (i + 1) h j (by omega) (by omega)
def good (s : ByteArray) : Bool := decide (2 ≤ s.size) && decide (s.size ≤ 12) && (s.size % 2 == 0) && allFrom s s.size 0
theorem good_size {s : ByteArray} (h : good s = true) : 2 ≤ s.size ∧ s.size ≤ 12 ∧ s.size % 2 = 0 := by
  simp [good] at h; omega
theorem good_bt {s : ByteArray} (h : good s = true) (j : Nat) (hj : j < s.size) : 48 ≤ bt s j ∧ bt s j ≤ 57 := by
  simp only [good, Bool.and_eq_true] at h
  exact allFrom_bt s s.size 0 h.2 j (by omega) (by omega)
theorem spec_size (n : Int) : spec_tkSize.f n = some (decide (2 ≤ n) && decide (n ≤ 12) && (Int.tmod n 2 == 0)) := by
  unfold spec_tkSize.f spec_l1In.f
  by_cases h1 : n ≥ 2
  · rw [if_pos h1]; simp only [Option.bind_some]
    by_cases h2 : n ≤ 12 <;> simp [h1, h2]
  · rw [if_neg h1]; simp; omega
theorem spec_good_l0 (s : ByteArray) (hn : s.size ≤ 1048576) : ∀ (d i k : Nat), i + d = s.size → d < k → spec_tkGood.l0 k s i = some (allFrom s d i)
  | 0, i, k, h, hk => by
    obtain ⟨k, rfl⟩ : ∃ m, k = m + 1 := ⟨k - 1, by omega⟩
    simp only [spec_tkGood.l0, allFrom]
    rw [if_neg (by omega)]
  | d + 1, i, k, h, hk => by
    obtain ⟨k, rfl⟩ : ∃ m, k = m + 1 := ⟨k - 1, by omega⟩
    simp only [spec_tkGood.l0, allFrom]
    rw [if_pos (by omega), if_pos (by omega)]
    by_cases c1 : bt s i < 48
    · rw [if_pos c1, if_pos c1]
    · rw [if_neg c1, if_neg c1]
      by_cases c2 : bt s i > 57
      · rw [if_pos c2, if_pos c2]
      · rw [if_neg c2, if_neg c2, wrap_id (by omega) (by omega)]
        exact spec_good_l0 s hn d (i + 1) k (by omega) (by omega)
theorem spec_good (s : ByteArray) (hn : s.size ≤ 1048576) (k : Nat) (hk : s.size < k) : spec_tkGood.f k s = some (good s) := by
  unfold spec_tkGood.f
  rw [spec_size]; simp only [Option.bind_some]
  have e : (Int.tmod (s.size : Int) 2 == 0) = (s.size % 2 == 0) := by
    rw [Bool.eq_iff_iff, beq_iff_eq, beq_iff_eq, Int.tmod_eq_emod_of_nonneg (by omega)]
    omega
  by_cases h1 : 2 ≤ s.size ∧ s.size ≤ 12 ∧ s.size % 2 = 0
  · rw [if_pos (by simp [e]; omega)]
    have := spec_good_l0 s hn s.size 0 k (by omega) hk
    rw [show ((0 : Nat) : Int) = 0 from rfl] at this
    rw [this]
    simp [good]; omega
  · rw [if_neg (by simp [e]; omega)]
    congr 1
    simp [good]
    omega
theorem impl_digits_l0 (s : ByteArray) (lo hi : Int) (hn : s.size ≤ 1048576) : ∀ (d i k : Nat), i + d = s.size → d < k →
    impl_areDigits.l0 k s lo hi s.size i = some (allFrom s d i && (decide (lo ≤ s.size) && decide ((s.size : Int) ≤ hi)))
  | 0, i, k, h, hk => by
    obtain ⟨k, rfl⟩ : ∃ m, k = m + 1 := ⟨k - 1, by omega⟩
    simp only [impl_areDigits.l0, allFrom]
    rw [if_neg (by omega)]
    unfold impl_within.f
    by_cases c : lo ≤ (s.size : Int)
    · rw [if_pos c]; simp [c]
    · rw [if_neg c]; simp [c]
  | d + 1, i, k, h, hk => by
    obtain ⟨k, rfl⟩ : ∃ m, k = m + 1 := ⟨k - 1, by omega⟩
    simp only [impl_areDigits.l0, allFrom]
    rw [if_pos (by omega), if_pos (by omega), if_pos (by omega)]
    by_cases c1 : bt s i < 48
    · rw [if_pos c1, if_pos c1]; rfl
    · rw [if_neg c1, if_neg c1]
      by_cases c2 : bt s i > 57
      · rw [if_pos c2, if_pos c2]; rfl
      · rw [if_neg c2, if_neg c2, wrap_id (by omega) (by omega)]
        exact impl_digits_l0 s lo hi hn d (i + 1) k (by omega) (by omega)
theorem impl_digits (s : ByteArray) (lo hi : Int) (hn : s.size ≤ 1048576) (k : Nat) (hk : s.size < k) :
    impl_areDigits.f k s lo hi = some (allFrom s s.size 0 && (decide (lo ≤ s.size) && decide ((s.size : Int) ≤ hi))) := by
  unfold impl_areDigits.f
  exact impl_digits_l0 s lo hi hn s.size 0 k (by omega) hk
theorem impl_good (s : ByteArray) (hn : s.size ≤ 1048576) (k : Nat) (hk : s.size < k) : impl_IsTicket.f k s = some (good s) := by
  unfold impl_IsTicket.f
  rw [impl_digits s 2 12 hn k hk]; simp only [Option.bind_some]
  by_cases h : allFrom s s.size 0 = true ∧ 2 ≤ s.size ∧ s.size ≤ 12
  · rw [if_pos (by simp [h.1]; omega)]
    congr 1
    simp only [good, h.1, h.2.1, h.2.2, decide_true, Bool.true_and, Bool.and_true]
    rw [Bool.eq_iff_iff, beq_iff_eq, beq_iff_eq]; omega
  · rw [if_neg (by simp; intro a b; exact Int.not_le.mp fun c => h ⟨a, by omega, by omega⟩)]
    congr 1
    symm
    rw [← Bool.not_eq_true]
    intro g
    have := good_size g
    simp only [good, Bool.and_eq_true] at g
    exact h ⟨g.2, this.1, this.2.1⟩

theorem son_size (l : List Int) : (strOfNums l).size = l.length := by simp [strOfNums, ByteArray.size]
theorem son_nil : (⟨#[]⟩ : ByteArray) = strOfNums [] := rfl
theorem son_append (l m : List Int) : strOfNums l ++ strOfNums m = strOfNums (l ++ m) := by
  apply ByteArray.ext
  simp [strOfNums]
theorem son_extract (l : List Int) (i j : Nat) : (strOfNums l).extract i j = strOfNums ((l.take j).drop i) := by
  apply ByteArray.ext
  rw [ByteArray.data_extract]
  apply Array.ext'
  simp [strOfNums, Array.toList_extract, List.extract, List.map_take, List.map_drop, List.drop_take]
def byts (l : List Int) : Prop := ∀ c ∈ l, 0 ≤ c ∧ c < 256
theorem son_bt (l : List Int) (h : byts l) (i : Nat) (hi : i < l.length) : bt (strOfNums l) i = l[i] := by
  unfold bt
  have h1 : (i : Int).toNat < (strOfNums l).size := by rw [son_size]; simpa using hi
  rw [dif_pos h1]
  have h2 := h l[i] (List.getElem_mem hi)
  have h3 : ((strOfNums l)[(i : Int).toNat]'h1) = UInt8.ofNat (l[i]).toNat := by
    show (strOfNums l).data[(i : Int).toNat] = _
    simp [strOfNums]
  rw [h3]
  simp
  omega
theorem bytesOf_byts (s : ByteArray) : byts (bytesOf s) := by
  intro c hc
  simp only [bytesOf, List.mem_map] at hc
  obtain ⟨b, _, rfl⟩ := hc
  have := b.toNat_lt
  omega
theorem son_bytesOf (s : ByteArray) : strOfNums (bytesOf s) = s := by
  apply ByteArray.ext
  apply Array.ext'
  simp [strOfNums, bytesOf, Function.comp_def]
def digs (l : List Int) : Prop := ∀ c ∈ l, 48 ≤ c ∧ c ≤ 57
theorem digs_byts {l : List Int} (h : digs l) : byts l := fun c hc => by have := h c hc; omega
theorem digs_append {l m : List Int} (h : digs l) (k : digs m) : digs (l ++ m) := fun c hc => by
  rcases List.mem_append.mp hc with hc | hc
  · exact h c hc
  · exact k c hc
theorem digs_one {c : Int} (h : 48 ≤ c ∧ c ≤ 57) : digs [c] := fun x hx => by simp at hx; subst hx; exact h
theorem digs_take {l : List Int} (h : digs l) (n : Nat) : digs (l.take n) := fun c hc => h c (List.mem_of_mem_take hc)
theorem digs_drop {l : List Int} (h : digs l) (n : Nat) : digs (l.drop n) := fun c hc => h c (List.mem_of_mem_drop hc)
def sN : List Int → Int
  | [] => 0
  | c :: l => (c - 48) + sN l
theorem sN_append (l m : List Int) : sN (l ++ m) = sN l + sN m := by
  induction l with
  | nil => simp [sN]
  | cons c l ih => simp [sN, ih]; omega
theorem sN_range (l : List Int) (h : digs l) : 0 ≤ sN l ∧ sN l ≤ 9 * l.length := by
  induction l with
  | nil => simp [sN]
  | cons c l ih =>
    have h1 := h c (by simp)
    have h2 := ih (fun x hx => h x (by simp [hx]))
    simp [sN]; omega

theorem good_digs {s : ByteArray} (g : good s = true) : ∃ (h : Nat) (l : List Int), 1 ≤ h ∧ h < 7 ∧ l.length = 2 * h ∧ digs l ∧ s = strOfNums l := by
  have hz := good_size g
  have hb := bytesOf_length s
  refine ⟨s.size / 2, bytesOf s, by omega, by omega, by omega, ?_, (son_bytesOf s).symm⟩
  intro x hx
  obtain ⟨i, hi, rfl⟩ := List.getElem_of_mem hx
  have := good_bt g i (by omega)
  rw [← rd_bytesOf] at this
  simpa [rd, hi] using this

theorem es_two (s : ByteArray) (n i : Nat) (x y : Int) (h : i % 2 = 0) : esL s (n + 2) i x y = esL s n (i + 2) (wrap64 (x + (bt s i - 48) % 256)) (wrap64 (y + (bt s ((i + 1 : Nat) : Int) - 48) % 256)) := by
  rw [show n + 2 = (n + 1) + 1 by omega]
  simp only [esL]
  rw [if_pos h, if_neg (by omega)]
theorem spec_es_l0 (l : List Int) (hd : digs l) (hl : l.length ≤ 12) : ∀ (d i k : Nat) (x y : Int), i + 2 * d = l.length → i % 2 = 0 → 0 ≤ x → x ≤ 9 * i → 0 ≤ y → y ≤ 9 * i → d < k →
    spec_IsEverySecond.l0 k (strOfNums l) (x - y) i = some ((esL (strOfNums l) (2 * d) i x y).1 == (esL (strOfNums l) (2 * d) i x y).2, true)
  | 0, i, k, x, y, e, hi, x0, x1, y0, y1, hk => by
    obtain ⟨k, rfl⟩ : ∃ m, k = m + 1 := ⟨k - 1, by omega⟩
    simp only [spec_IsEverySecond.l0]
    rw [if_neg (by rw [son_size]; omega)]
    congr 2
    show (x - y == 0) = (x == y)
    rw [Bool.eq_iff_iff, beq_iff_eq, beq_iff_eq]
    omega
  | d + 1, i, k, x, y, e, hi, x0, x1, y0, y1, hk => by
    obtain ⟨k, rfl⟩ : ∃ m, k = m + 1 := ⟨k - 1, by omega⟩
    have i0 : i < l.length := by omega
    have i1 : i + 1 < l.length := by omega
    have b0 := son_bt l (digs_byts hd) i i0
    have b1 := son_bt l (digs_byts hd) (i + 1) i1
    have h0 := hd _ (List.getElem_mem i0)
    have h1 := hd _ (List.getElem_mem i1)
    have w1 : wrap64 ((i : Int) + 1) = ((i + 1 : Nat) : Int) := by rw [wrap_id (by omega) (by omega)]; omega
    have w2 : wrap64 ((i : Int) + 2) = ((i + 2 : Nat) : Int) := by rw [wrap_id (by omega) (by omega)]; omega
    simp only [spec_IsEverySecond.l0]
    rw [if_pos (by rw [son_size]; omega), if_pos (by omega), w1, w2, if_pos (by omega), if_pos (by rw [son_size]; omega), show 2 * (d + 1) = 2 * d + 2 by omega, es_two _ _ _ _ _ hi, b0, b1]
    have e1 : wrap64 (x + (l[i] - 48) % 256) = x + (l[i] - 48) := by unfold wrap64; omega
    have e2 : wrap64 (y + (l[i + 1] - 48) % 256) = y + (l[i + 1] - 48) := by unfold wrap64; omega
    have e3 : wrap64 (x - y + wrap64 (wrap64 l[i] - wrap64 l[i + 1])) = (x + (l[i] - 48)) - (y + (l[i + 1] - 48)) := by
      rw [wrap_id (x := l[i]) (by omega) (by omega), wrap_id (x := l[i + 1]) (by omega) (by omega), wrap_id (x := l[i] - l[i + 1]) (by omega) (by omega), wrap_id (by omega) (by omega)]
      omega
    rw [e1, e2, e3]
    exact spec_es_l0 l hd hl d (i + 2) k _ _ (by omega) (by omega) (by omega) (by omega) (by omega) (by omega) (by omega)
theorem FnExactIsEverySecond : laws_FnExactIsEverySecond.Pure := by
  intro s hs
  by_cases hz : (s.size : Int) > 1048576
  · refine ⟨0, ?_⟩
    unfold laws_FnExactIsEverySecond.f
    rw [if_pos hz]
  · refine ⟨s.size + 100, ?_⟩
    unfold laws_FnExactIsEverySecond.f
    rw [if_neg hz]
    unfold spec_IsEverySecond.f impl_IsEverySecond.f
    rw [spec_good s (by omega) _ (by omega), impl_good s (by omega) _ (by omega)]
    simp only [Option.bind_some]
    by_cases g : good s = true
    · have gz := good_size g
      rw [if_pos g, if_pos g, if_pos (by omega)]
      obtain ⟨h, l, h1, h2, hl, hd, rfl⟩ := good_digs g
      have := spec_es_l0 l hd (by omega) h 0 ((strOfNums l).size + 100) 0 0 (by omega) (by omega) (by omega) (by omega) (by omega) (by omega) (by omega)
      rw [son_size] at this ⊢
      rw [hl] at this ⊢
      rw [show (0 : Int) - 0 = 0 by omega, show ((0 : Nat) : Int) = 0 from rfl] at this
      rw [this]
      simp
    · rw [if_neg g, if_neg g]
      simp

end Go.Proofs.Ythpmbefhnhojbaa.Pure
