/- For every text the program's ValueOfSigned and the reference's answer alike: the plain law, without conditions. -/
import Derived.Test.YtpopjdoljpianaaPFnExactValueOfSignedx3
set_option linter.unusedVariables false
set_option linter.unusedSimpArgs false
namespace Go.Proofs.Ytpopjdoljpianaa.Pure
open Go.RowKit Go.Proofs.Ytpopjdoljpianaa.PFnExactValueOfSigned Go.Proofs.YtpopjdoljpianaaW.PrintWords Go.Proofs.YtpopjdoljpianaaW.PrintLast Go.Proofs.YtpopjdoljpianaaW.PrintMore

theorem wrap_id {x : Int} (h0 : -9223372036854775808 ≤ x) (h1 : x < 9223372036854775808) : wrap64 x = x := by
  unfold wrap64
  omega
theorem lit_wf {x : Int} (h : (Lit.int .i64 x).wf = true) : -9223372036854775808 ≤ x ∧ x < 9223372036854775808 := by
  have h2 := h
  simp [Lit.wf, IntKind.min, IntKind.max, IntKind.bits, IntKind.signed] at h2
  omega
theorem wrap_add (x y : Int) : wrap64 (wrap64 x + y) = wrap64 (x + y) := by
  have e : ∀ (m c : Int), ((x + c) % m - c + y + c) % m = (x + y + c) % m := fun m c => by
    have h1 : (x + c) % m - c + y + c = (x + c) % m + y := by generalize (x + c) % m = q; omega
    rw [h1, Int.emod_add_emod, show x + c + y = x + y + c by omega]
  unfold wrap64
  rw [e]
theorem wrap_sub (x y : Int) : wrap64 (wrap64 x - y) = wrap64 (x - y) := by
  rw [Int.sub_eq_add_neg, wrap_add, Int.sub_eq_add_neg]

def allFrom (s : ByteArray) : Nat → Nat → Bool
  | 0, _ => true
  | d + 1, i => if bt s i < 48 then false else if bt s i > 57 then false else allFrom s d (i + 1)
theorem allFrom_bt (s : ByteArray) : ∀ (d i : Nat), allFrom s d i = true → ∀ j : Nat, i ≤ j → j < i + d → 48 ≤ bt s j ∧ bt s j ≤ 57
  | 0, i, _, j, h1, h2 => by omega
  | d + 1, i, h, j, h1, h2 => by
    unfold allFrom at h
    by_cases c1 : bt s i < 48
    · rw [if_pos c1] at h; cases h
    · rw [if_neg c1] at h
      by_cases c2 : bt s i > 57
      · rw [if_pos c2] at h; cases h
      · rw [if_neg c2] at h
        by_cases e : j = i
        · subst e; omega
        · exact allFrom_bt s d (i + 1) h j (by omega) (by omega)
def good (s : ByteArray) : Bool := decide (2 ≤ s.size) && decide (s.size ≤ 12) && (s.size % 2 == 0) && allFrom s s.size 0
theorem good_size {s : ByteArray} (h : good s = true) : 2 ≤ s.size ∧ s.size ≤ 12 ∧ s.size % 2 = 0 := by
  simp [good] at h; omega
theorem good_bt {s : ByteArray} (h : good s = true) (j : Nat) (hj : j < s.size) : 48 ≤ bt s j ∧ bt s j ≤ 57 := by
  simp only [good, Bool.and_eq_true] at h
  exact allFrom_bt s s.size 0 h.2 j (by omega) (by omega)
theorem impl_digits_l0 (s : ByteArray) (lo hi : Int) (hn : s.size ≤ 1048576) : ∀ (d i k : Nat), i + d = s.size → d < k →
    impl_areDigits.l0 k s lo hi s.size i = some (allFrom s d i && (decide (lo ≤ s.size) && decide ((s.size : Int) ≤ hi)))
  | 0, i, k, h, hk => by
    obtain ⟨k, rfl⟩ : ∃ m, k = m + 1 := ⟨k - 1, by omega⟩
    simp only [impl_areDigits.l0, allFrom]
    rw [if_neg (by omega)]
    unfold impl_within.f
    by_cases c : lo ≤ (s.size : Int)
    · rw [if_pos c]; simp [c]
    · rw [if_neg c]; simp [c]
  | d + 1, i, k, h, hk => by
    obtain ⟨k, rfl⟩ : ∃ m, k = m + 1 := ⟨k - 1, by omega⟩
    simp only [impl_areDigits.l0, allFrom]
    rw [if_pos (by omega), if_pos (by omega), if_pos (by omega)]
    by_cases c1 : bt s i < 48
    · rw [if_pos c1, if_pos c1]; rfl
    · rw [if_neg c1, if_neg c1]
      by_cases c2 : bt s i > 57
      · rw [if_pos c2, if_pos c2]; rfl
      · rw [if_neg c2, if_neg c2, wrap_id (by omega) (by omega)]
        exact impl_digits_l0 s lo hi hn d (i + 1) k (by omega) (by omega)
theorem impl_digits (s : ByteArray) (lo hi : Int) (hn : s.size ≤ 1048576) (k : Nat) (hk : s.size < k) :
    impl_areDigits.f k s lo hi = some (allFrom s s.size 0 && (decide (lo ≤ s.size) && decide ((s.size : Int) ≤ hi))) := by
  unfold impl_areDigits.f
  exact impl_digits_l0 s lo hi hn s.size 0 k (by omega) hk
theorem son_size (l : List Int) : (strOfNums l).size = l.length := by simp [strOfNums, ByteArray.size]
theorem son_nil : (⟨#[]⟩ : ByteArray) = strOfNums [] := rfl
theorem son_append (l m : List Int) : strOfNums l ++ strOfNums m = strOfNums (l ++ m) := by
  apply ByteArray.ext
  simp [strOfNums]
theorem son_extract (l : List Int) (i j : Nat) : (strOfNums l).extract i j = strOfNums ((l.take j).drop i) := by
  apply ByteArray.ext
  rw [ByteArray.data_extract]
  apply Array.ext'
  simp [strOfNums, Array.toList_extract, List.extract, List.map_take, List.map_drop, List.drop_take]
def byts (l : List Int) : Prop := ∀ c ∈ l, 0 ≤ c ∧ c < 256
theorem son_bt (l : List Int) (h : byts l) (i : Nat) (hi : i < l.length) : bt (strOfNums l) i = l[i] := by
  unfold bt
  have h1 : (i : Int).toNat < (strOfNums l).size := by rw [son_size]; simpa using hi
  rw [dif_pos h1]
  have h2 := h l[i] (List.getElem_mem hi)
  have h3 : ((strOfNums l)[(i : Int).toNat]'h1) = UInt8.ofNat (l[i]).toNat := by
    show (strOfNums l).data[(i : Int).toNat] = _
    simp [strOfNums]
  rw [h3]
  simp
  omega
theorem bytesOf_byts (s : ByteArray) : byts (bytesOf s) := by
  intro c hc
  simp only [bytesOf, List.mem_map] at hc
  obtain ⟨b, _, rfl⟩ := hc
  have := b.toNat_lt
  omega
theorem son_bytesOf (s : ByteArray) : strOfNums (bytesOf s) = s := by
  apply ByteArray.ext
  apply Array.ext'
  simp [strOfNums, bytesOf, Function.comp_def]
def digs (l : List Int) : Prop := ∀ c ∈ l, 48 ≤ c ∧ c ≤ 57
theorem digs_byts {l : List Int} (h : digs l) : byts l := fun c hc => by have := h c hc; omega
theorem digs_append {l m : List Int} (h : digs l) (k : digs m) : digs (l ++ m) := fun c hc => by
  rcases List.mem_append.mp hc with hc | hc
  · exact h c hc
  · exact k c hc
theorem digs_one {c : Int} (h : 48 ≤ c ∧ c ≤ 57) : digs [c] := fun x hx => by simp at hx; subst hx; exact h
theorem digs_take {l : List Int} (h : digs l) (n : Nat) : digs (l.take n) := fun c hc => h c (List.mem_of_mem_take hc)
theorem digs_drop {l : List Int} (h : digs l) (n : Nat) : digs (l.drop n) := fun c hc => h c (List.mem_of_mem_drop hc)
def sN : List Int → Int
  | [] => 0
  | c :: l => (c - 48) + sN l
theorem sN_append (l m : List Int) : sN (l ++ m) = sN l + sN m := by
  induction l with
  | nil => simp [sN]
  | cons c l ih => simp [sN, ih]; omega
theorem sN_range (l : List Int) (h : digs l) : 0 ≤ sN l ∧ sN l ≤ 9 * l.length := by
  induction l with
  | nil => simp [sN]
  | cons c l ih =>
    have h1 := h c (by simp)
    have h2 := ih (fun x hx => h x (by simp [hx]))
    simp [sN]; omega

def nonS (l : List Int) : List Int := l.filter fun c => !sgB c
theorem nonS_cons (c : Int) (l : List Int) : nonS (c :: l) = if sgB c = true then nonS l else c :: nonS l := by
  unfold nonS
  cases h : sgB c <;> simp [List.filter_cons, h]
theorem nonS_append (l m : List Int) : nonS (l ++ m) = nonS l ++ nonS m := by simp [nonS]
theorem nonS_byts {l : List Int} (h : byts l) : byts (nonS l) := fun c hc => h c (List.mem_filter.mp hc).1
theorem nonS_len (l : List Int) : (nonS l).length ≤ l.length := List.length_filter_le _ _
theorem rd_get (l : List Int) (i : Nat) (h : i < l.length) : rd l (i : Int) = l[i] := by simp [rd, h]
theorem delL_filter (xs : List Int) : ∀ (d i j : Nat) (ys : List Int), j + d = xs.length → i ≤ j → ys.length = xs.length → ys.take i = nonS (xs.take j) → ys.drop j = xs.drop j →
    (delL d i j ys).2.take (delL d i j ys).1 = nonS xs
  | 0, i, j, ys, e, hij, hl, h1, h2 => by
    simp only [delL]
    rw [h1, List.take_of_length_le (by omega)]
  | d + 1, i, j, ys, e, hij, hl, h1, h2 => by
    have hj : j < xs.length := by omega
    have hjy : j < ys.length := by omega
    have e1 : ys[j] = xs[j] := by
      have a := List.drop_eq_getElem_cons hjy
      have b := List.drop_eq_getElem_cons hj
      rw [a, b] at h2
      exact (List.cons.inj h2).1
    have e2 : ys.drop (j + 1) = xs.drop (j + 1) := by
      have a := List.drop_eq_getElem_cons hjy
      have b := List.drop_eq_getElem_cons hj
      rw [a, b] at h2
      exact (List.cons.inj h2).2
    have e3 : nonS (xs.take (j + 1)) = if sgB xs[j] = true then nonS (xs.take j) else nonS (xs.take j) ++ [xs[j]] := by
      rw [List.take_succ_eq_append_getElem hj, nonS_append, nonS_cons]
      by_cases c : sgB xs[j] = true
      · rw [if_pos c, if_pos c]; simp [nonS]
      · rw [if_neg c, if_neg c]; simp [nonS]
    simp only [delL]
    rw [rd_get ys j hjy, e1]
    by_cases c : sgB xs[j] = true
    · rw [if_pos c]
      rw [if_pos c] at e3
      exact delL_filter xs d i (j + 1) ys (by omega) (by omega) hl (by rw [h1, e3]) e2
    · rw [if_neg c]
      rw [if_neg c] at e3
      refine delL_filter xs d (i + 1) (j + 1) (ys.set i xs[j]) (by omega) (by omega) (by rw [List.length_set]; exact hl) ?_ ?_
      · rw [e3, ← h1, List.take_succ_eq_append_getElem (by rw [List.length_set]; omega), List.getElem_set_self, List.take_set_of_le (Nat.le_refl i)]
      · rw [List.drop_set_of_lt (by omega)]
        exact e2
theorem idxL_all (xs : List Int) : ∀ (d i : Nat), i + d = xs.length → idxL xs d i = -1 → nonS (xs.drop i) = xs.drop i
  | 0, i, e, _ => by rw [List.drop_of_length_le (by omega)]; rfl
  | d + 1, i, e, h => by
    have hi : i < xs.length := by omega
    simp only [idxL] at h
    rw [rd_get xs i hi] at h
    by_cases c : sgB xs[i] = true
    · rw [if_pos c] at h; omega
    · rw [if_neg c] at h
      rw [List.drop_eq_getElem_cons hi, nonS_cons, if_neg c, idxL_all xs d (i + 1) (by omega) h]
theorem idxL_some (xs : List Int) : ∀ (d i m : Nat), i + d = xs.length → idxL xs d i = (m : Int) → i ≤ m ∧ m < xs.length ∧ nonS ((xs.take m).drop i) = (xs.take m).drop i ∧ sgB (rd xs (m : Int)) = true
  | 0, i, m, e, h => by simp only [idxL] at h; omega
  | d + 1, i, m, e, h => by
    have hi : i < xs.length := by omega
    simp only [idxL] at h
    by_cases c : sgB (rd xs i) = true
    · rw [if_pos c] at h
      have : i = m := by omega
      subst this
      exact ⟨Nat.le_refl _, hi, by rw [List.drop_of_length_le (by simp; omega)]; rfl, c⟩
    · rw [if_neg c] at h
      obtain ⟨h1, h2, h3, h4⟩ := idxL_some xs d (i + 1) m (by omega) h
      refine ⟨by omega, h2, ?_, h4⟩
      rw [rd_get xs i hi] at c
      have hi2 : i < (xs.take m).length := by simp; omega
      rw [List.drop_eq_getElem_cons hi2, nonS_cons]
      simp only [List.getElem_take]
      rw [if_neg c, h3]
theorem plainL_eq (xs : List Int) : plainL xs = nonS xs := by
  unfold plainL
  by_cases c : idxL xs xs.length 0 = -1
  · rw [if_pos c]
    have := idxL_all xs xs.length 0 (by omega) c
    rw [List.drop_zero] at this
    exact this.symm
  · rw [if_neg c]
    rcases idxL_range xs xs.length 0 with hm | ⟨m, hm, _, hm2⟩
    · exact absurd hm c
    · obtain ⟨_, h2, h3, h4⟩ := idxL_some xs xs.length 0 m (by omega) hm
      rw [hm, Int.toNat_natCast]
      rw [List.drop_zero] at h3
      refine delL_filter xs _ m (m + 1) xs (by omega) (by omega) rfl ?_ rfl
      rw [rd_get xs m h2] at h4
      rw [List.take_succ_eq_append_getElem h2, nonS_append, nonS_cons, if_pos h4, h3]
      simp [nonS]
def okF (l : List Int) : Nat → Nat → Bool
  | 0, _ => true
  | d + 1, i => if sgB (rd l i) = true ∧ (i = 0 ∨ i = l.length - 1 ∨ sgB (rd l ((i - 1 : Nat) : Int)) = true) then false else okF l d (i + 1)
theorem okF_no {l : List Int} {d i : Nat} (h : sgB (rd l i) = false) : okF l (d + 1) i = okF l d (i + 1) := by
  simp only [okF]; rw [if_neg (fun q => by rw [h] at q; cases q.1)]
theorem okF_bad {l : List Int} {d i : Nat} (h : sgB (rd l i) = true) (c : i = 0 ∨ i = l.length - 1 ∨ sgB (rd l ((i - 1 : Nat) : Int)) = true) : okF l (d + 1) i = false := by
  simp only [okF]; rw [if_pos ⟨h, c⟩]
theorem okF_go {l : List Int} {d i : Nat} (c : ¬ (i = 0 ∨ i = l.length - 1 ∨ sgB (rd l ((i - 1 : Nat) : Int)) = true)) : okF l (d + 1) i = okF l d (i + 1) := by
  simp only [okF]; rw [if_neg (fun q => c q.2)]
def digOk (q : List Int) : Bool := decide (1 ≤ q.length) && decide (q.length ≤ 7) && allFrom (strOfNums q) q.length 0
def sigB (l : List Int) : Bool := okF l l.length 0 && digOk (nonS l)
theorem okF_len (l : List Int) : ∀ (d i : Nat), i + d = l.length → okF l d i = true → d ≤ 2 * (nonS (l.drop i)).length ∧ (∀ h : i < l.length, sgB l[i] = false → d + 1 ≤ 2 * (nonS (l.drop i)).length)
  | 0, i, e, _ => ⟨by omega, fun h => by omega⟩
  | d + 1, i, e, h => by
    have hi : i < l.length := by omega
    simp only [okF] at h
    rw [rd_get l i hi] at h
    by_cases c : sgB l[i] = true
    · have h1 : ¬ (i = 0 ∨ i = l.length - 1 ∨ sgB (rd l ((i - 1 : Nat) : Int)) = true) := fun q => by rw [if_pos ⟨c, q⟩] at h; cases h
      rw [if_neg (fun q => h1 q.2)] at h
      have h2 := okF_len l d (i + 1) (by omega) h
      have hi1 : i + 1 < l.length := by omega
      have hns : sgB l[i + 1] = false := by
        cases d with
        | zero => omega
        | succ d =>
          simp only [okF] at h
          rw [rd_get l (i + 1) hi1] at h
          by_cases q : sgB l[i + 1] = true
          · rw [if_pos ⟨q, .inr (.inr (by rw [show i + 1 - 1 = i by omega, rd_get l i hi]; exact c))⟩] at h; cases h
          · simpa using q
      have h3 := h2.2 hi1 hns
      rw [List.drop_eq_getElem_cons hi, nonS_cons, if_pos c]
      exact ⟨by omega, fun _ q => by rw [c] at q; cases q⟩
    · rw [if_neg (fun q => c q.1)] at h
      have h2 := okF_len l d (i + 1) (by omega) h
      rw [List.drop_eq_getElem_cons hi, nonS_cons, if_neg c]
      simp only [List.length_cons]
      exact ⟨by omega, fun _ _ => by omega⟩
theorem sigB_len {l : List Int} (h : sigB l = true) : l.length ≤ 14 ∧ 1 ≤ l.length := by
  simp only [sigB, digOk, Bool.and_eq_true, decide_eq_true_eq] at h
  have := (okF_len l l.length 0 (by omega) h.1).1
  rw [List.drop_zero] at this
  have h2 := nonS_len l
  omega
theorem spec_sign_eq (c : Int) : spec_sgSign.f c = some (sgB c) := by
  unfold spec_sgSign.f sgB
  by_cases h1 : c = 43
  · rw [if_pos h1]; simp [h1]
  · rw [if_neg h1]
    by_cases h2 : c = 45
    · rw [if_pos h2]; simp [h2]
    · have b1 : (c == 43) = false := beq_eq_false_iff_ne.2 h1
      have b2 : (c == 45) = false := beq_eq_false_iff_ne.2 h2
      rw [if_neg h2, b1, b2]
      rfl
theorem spec_dig_l0 (s : ByteArray) (hn : s.size ≤ 1048576) : ∀ (d i k : Nat), i + d = s.size → d < k → spec_sgDigits.l0 k s i = some (allFrom s d i)
  | 0, i, k, h, hk => by
    obtain ⟨k, rfl⟩ : ∃ m, k = m + 1 := ⟨k - 1, by omega⟩
    simp only [spec_sgDigits.l0, allFrom]
    rw [if_neg (by omega)]
  | d + 1, i, k, h, hk => by
    obtain ⟨k, rfl⟩ : ∃ m, k = m + 1 := ⟨k - 1, by omega⟩
    simp only [spec_sgDigits.l0, allFrom]
    rw [if_pos (by omega), if_pos (by omega)]
    by_cases c1 : bt s i < 48
    · rw [if_pos c1, if_pos c1]
    · rw [if_neg c1, if_neg c1]
      by_cases c2 : bt s i > 57
      · rw [if_pos c2, if_pos c2]
      · rw [if_neg c2, if_neg c2, wrap_id (by omega) (by omega)]
        exact spec_dig_l0 s hn d (i + 1) k (by omega) (by omega)
theorem spec_dig (q : List Int) (hq : q.length ≤ 1048576) (k : Nat) (hk : q.length < k) : spec_sgDigits.f k (strOfNums q) = some (digOk q) := by
  unfold spec_sgDigits.f spec_l1In.f digOk
  rw [son_size]
  by_cases h1 : (q.length : Int) ≥ 1
  · rw [if_pos h1]; simp only [Option.bind_some]
    have a1 : 1 ≤ q.length := by omega
    by_cases h2 : (q.length : Int) ≤ 7
    · have a2 : q.length ≤ 7 := by omega
      rw [if_pos (by simpa using h2)]
      have := spec_dig_l0 (strOfNums q) (by rw [son_size]; exact hq) q.length 0 k (by rw [son_size]; omega) hk
      rw [show ((0 : Nat) : Int) = 0 from rfl] at this
      rw [this]
      simp [a1, a2]
    · have a2 : ¬ q.length ≤ 7 := by omega
      rw [if_neg (by simpa using h2)]
      simp [a2]
  · have a1 : ¬ 1 ≤ q.length := by omega
    rw [if_neg h1]; simp only [Option.bind_some]
    rw [if_neg (by simp)]
    simp [a1]
theorem impl_some (q : List Int) (hq : q.length ≤ 1048576) (k : Nat) (hk : q.length < k) : impl_areSome.f k (strOfNums q) = some (digOk q) := by
  unfold impl_areSome.f digOk
  rw [impl_digits _ 1 7 (by rw [son_size]; exact hq) k (by rw [son_size]; exact hk), son_size]
  simp only [Option.bind_some]
  congr 1
  rw [Bool.and_comm]
  congr 1
  congr 1
  · rw [Bool.eq_iff_iff, decide_eq_true_eq, decide_eq_true_eq]; omega
  · rw [Bool.eq_iff_iff, decide_eq_true_eq, decide_eq_true_eq]; omega
theorem spec_plain_l0 (l : List Int) (hb : byts l) (hl : l.length ≤ 14) : ∀ (d i k : Nat) (a : List Int), i + d = l.length → a.length ≤ i → 100 + d < k →
    spec_sgPlainDigits.l0 k (strOfNums l) (strOfNums a) i = some (if okF l d i = true then (strOfNums (a ++ nonS (l.drop i)), digOk (a ++ nonS (l.drop i))) else ((⟨#[]⟩ : ByteArray), false))
  | 0, i, k, a, e, ha, hk => by
    obtain ⟨k, rfl⟩ : ∃ m, k = m + 1 := ⟨k - 1, by omega⟩
    simp only [spec_sgPlainDigits.l0, okF]
    rw [son_size, if_neg (by omega), spec_dig a (by omega) k (by omega), List.drop_of_length_le (by omega)]
    simp [nonS]
  | d + 1, i, k, a, e, ha, hk => by
    obtain ⟨k, rfl⟩ : ∃ m, k = m + 1 := ⟨k - 1, by omega⟩
    have hi : i < l.length := by omega
    have hdr := List.drop_eq_getElem_cons hi
    have hrd := rd_get l i hi
    simp only [spec_sgPlainDigits.l0]
    rw [son_size, if_pos (by omega), if_pos (by omega), son_bt l hb i hi, spec_sign_eq]
    simp only [Option.bind_some]
    have w1 : wrap64 ((i : Int) + 1) = ((i + 1 : Nat) : Int) := by rw [wrap_id (by omega) (by omega)]; omega
    by_cases c : sgB l[i] = true
    · have c' : sgB (rd l i) = true := by rw [hrd]; exact c
      rw [if_pos c]
      by_cases c0 : i = 0
      · rw [if_pos (by omega), okF_bad c' (.inl c0), if_neg (by simp)]
      · rw [if_neg (by omega)]
        by_cases c1 : i = l.length - 1
        · rw [if_pos (by rw [wrap_id (by omega) (by omega)]; omega), okF_bad c' (.inr (.inl c1)), if_neg (by simp)]
        · have w2 : wrap64 ((i : Int) - 1) = ((i - 1 : Nat) : Int) := by rw [wrap_id (by omega) (by omega)]; omega
          have hrd2 := rd_get l (i - 1) (by omega)
          rw [if_neg (by rw [wrap_id (by omega) (by omega)]; omega), w2, if_pos (by omega), if_pos (by omega), son_bt l hb (i - 1) (by omega), spec_sign_eq]
          simp only [Option.bind_some]
          by_cases c2 : sgB l[i - 1] = true
          · rw [if_pos c2, okF_bad c' (.inr (.inr (by rw [hrd2]; exact c2))), if_neg (by simp)]
          · rw [if_neg c2, okF_go (by rw [hrd2]; rintro (q | q | q) <;> contradiction), w1, spec_plain_l0 l hb hl d (i + 1) k a (by omega) (by omega) (by omega), hdr, nonS_cons, if_pos c]
    · have c' : sgB (rd l i) = false := by rw [hrd]; simpa using c
      rw [if_neg c, okF_no c', w1, if_pos (by omega), if_pos (by omega), show ((i + 1 : Nat) : Int).toNat = i + 1 by omega, Int.toNat_natCast, son_extract]
      have e1 : (l.take (i + 1)).drop i = [l[i]] := by
        rw [List.take_succ_eq_append_getElem hi, List.drop_append_of_le_length (by simp; omega)]
        simp
      rw [e1, son_size, son_size, if_pos (by simp; omega), son_append, spec_plain_l0 l hb hl d (i + 1) k (a ++ [l[i]]) (by omega) (by simp; omega) (by omega), hdr, nonS_cons, if_neg c, List.append_assoc]
      rfl
theorem spec_plain (l : List Int) (hb : byts l) (k : Nat) (hk : 200 < k) : spec_sgPlainDigits.f k (strOfNums l) = some (if l.length ≤ 14 ∧ okF l l.length 0 = true then (strOfNums (nonS l), digOk (nonS l)) else ((⟨#[]⟩ : ByteArray), false)) := by
  unfold spec_sgPlainDigits.f
  rw [son_size]
  by_cases h : (l.length : Int) > 14
  · rw [if_pos h, if_neg (by omega)]
  · rw [if_neg h]
    have := spec_plain_l0 l hb (by omega) l.length 0 k [] (by omega) (by simp) (by omega)
    rw [List.drop_zero, List.nil_append] at this
    rw [son_nil, show (0 : Int) = ((0 : Nat) : Int) from rfl, this]
    by_cases c : okF l l.length 0 = true
    · rw [if_pos c, if_pos ⟨by omega, c⟩]
    · rw [if_neg c, if_neg (fun q => c q.2)]
      rfl
theorem spec_plain_good (l : List Int) (hb : byts l) (k : Nat) (hk : 200 < k) : spec_sgPlainDigits.f k (strOfNums l) = some (if sigB l = true then (strOfNums (nonS l), true) else ((if l.length ≤ 14 ∧ okF l l.length 0 = true then strOfNums (nonS l) else (⟨#[]⟩ : ByteArray)), false)) := by
  rw [spec_plain l hb k hk]
  congr 1
  by_cases c : sigB l = true
  · have hl := sigB_len c
    rw [if_pos c]
    simp only [sigB, Bool.and_eq_true] at c
    rw [if_pos ⟨hl.1, c.1⟩, c.2]
  · rw [if_neg c]
    by_cases h : l.length ≤ 14 ∧ okF l l.length 0 = true
    · rw [if_pos h, if_pos h]
      have : digOk (nonS l) = false := by
        rw [← Bool.not_eq_true]
        intro q
        exact c (by simp only [sigB, Bool.and_eq_true]; exact ⟨h.2, q⟩)
      rw [this]
    · rw [if_neg h, if_neg h]
theorem spec_sigood (l : List Int) (hb : byts l) (k : Nat) (hk : 200 < k) : spec_sgGood.f k (strOfNums l) = some (sigB l) := by
  unfold spec_sgGood.f
  rw [spec_plain_good l hb k hk]
  simp only [Option.bind_some]
  by_cases c : sigB l = true
  · rw [if_pos c, c]
  · rw [if_neg c]
    simp only [Bool.not_eq_true] at c
    rw [c]
theorem byt_son (l : List Int) (h : byts l) : bytesOf (strOfNums l) = l := by
  unfold bytesOf strOfNums
  simp only [List.map_map]
  rw [List.map_congr_left (g := id) (fun c hc => by have := h c hc; simp; omega)]
  simp
theorem impl_plain (l : List Int) (hb : byts l) (hl : l.length ≤ 1048576) : impl_plainDigits.f (strOfNums l) = some (strOfNums (nonS l)) := by
  unfold impl_plainDigits.f
  rw [son_size, if_pos hl, byt_son l hb, plainL_eq]
theorem impl_signed_l0 (l : List Int) (hb : byts l) (hl : l.length ≤ 1048576) : ∀ (d i k : Nat), i + d = l.length → l.length + 1 + d < k →
    impl_IsSigned.l0 k (strOfNums l) l.length i = some (okF l d i && digOk (nonS l))
  | 0, i, k, e, hk => by
    obtain ⟨k, rfl⟩ : ∃ m, k = m + 1 := ⟨k - 1, by omega⟩
    have := nonS_len l
    simp only [impl_IsSigned.l0, okF]
    rw [if_neg (by omega), impl_plain l hb hl]
    simp only [Option.bind_some]
    rw [impl_some _ (by omega) k (by omega)]
    simp
  | d + 1, i, k, e, hk => by
    obtain ⟨k, rfl⟩ : ∃ m, k = m + 1 := ⟨k - 1, by omega⟩
    have hi : i < l.length := by omega
    have hrd := rd_get l i hi
    simp only [impl_IsSigned.l0]
    rw [son_size, if_pos (by omega), if_pos (by omega), if_pos (by omega), son_bt l hb i hi, isSign_eq_]
    simp only [Option.bind_some]
    have w1 : wrap64 ((i : Int) + 1) = ((i + 1 : Nat) : Int) := by rw [wrap_id (by omega) (by omega)]; omega
    rw [w1]
    by_cases c : sgB l[i] = true
    · have c' : sgB (rd l i) = true := by rw [hrd]; exact c
      rw [if_pos c]
      by_cases c0 : i = 0
      · rw [if_pos (by omega), okF_bad c' (.inl c0)]; rfl
      · rw [if_neg (by omega)]
        by_cases c1 : i = l.length - 1
        · rw [if_pos (by rw [wrap_id (by omega) (by omega)]; omega), okF_bad c' (.inr (.inl c1))]; rfl
        · have w2 : wrap64 ((i : Int) - 1) = ((i - 1 : Nat) : Int) := by rw [wrap_id (by omega) (by omega)]; omega
          have hrd2 := rd_get l (i - 1) (by omega)
          rw [if_neg (by rw [wrap_id (by omega) (by omega)]; omega), w2, if_pos (by omega), if_pos (by omega), son_bt l hb (i - 1) (by omega), isSign_eq_]
          simp only [Option.bind_some]
          by_cases c2 : sgB l[i - 1] = true
          · rw [if_pos c2, okF_bad c' (.inr (.inr (by rw [hrd2]; exact c2)))]; rfl
          · rw [if_neg c2, okF_go (by rw [hrd2]; rintro (q | q | q) <;> contradiction)]
            exact impl_signed_l0 l hb hl d (i + 1) k (by omega) (by omega)
    · have c' : sgB (rd l i) = false := by rw [hrd]; simpa using c
      rw [if_neg c, okF_no c']
      exact impl_signed_l0 l hb hl d (i + 1) k (by omega) (by omega)
theorem impl_signed (l : List Int) (hb : byts l) (hl : l.length ≤ 1048576) (k : Nat) (hk : 2 * l.length + 1 < k) : impl_IsSigned.f k (strOfNums l) = some (sigB l) := by
  unfold impl_IsSigned.f
  rw [son_size]
  exact impl_signed_l0 l hb hl l.length 0 k (by omega) (by omega)
theorem as_list (s : ByteArray) : ∃ l : List Int, byts l ∧ s = strOfNums l ∧ l.length = s.size := ⟨bytesOf s, bytesOf_byts s, (son_bytesOf s).symm, bytesOf_length s⟩

theorem wrap_mul (x y : Int) : wrap64 (wrap64 x * y) = wrap64 (x * y) := by
  have e : ∀ (m c : Int), (((x + c) % m - c) * y + c) % m = (x * y + c) % m := fun m c => by
    have h1 : ((x + c) % m - c) * y + c = (x * y + c) + m * (-((x + c) / m) * y) := by
      rw [Int.emod_def]
      generalize (x + c) / m = q
      have h2 : x + c - m * q - c = x - m * q := by generalize m * q = z; omega
      rw [h2, Int.sub_mul, Int.neg_mul, Int.mul_neg, Int.mul_assoc]
      generalize m * (q * y) = z
      generalize x * y = u
      omega
    rw [h1, Int.add_mul_emod_self_left]
  unfold wrap64
  rw [e]
theorem wrap_mul_r (x y : Int) : wrap64 (x * wrap64 y) = wrap64 (x * y) := by
  rw [Int.mul_comm, wrap_mul, Int.mul_comm]
theorem okF_next {l : List Int} {d i : Nat} (e : i + (d + 1) = l.length) (h : okF l (d + 1) i = true) (c : sgB (rd l i) = true) : i ≠ 0 ∧ 0 < d ∧ sgB (rd l ((i + 1 : Nat) : Int)) = false ∧ okF l d (i + 1) = true := by
  have h1 : ¬ (i = 0 ∨ i = l.length - 1 ∨ sgB (rd l ((i - 1 : Nat) : Int)) = true) := fun q => by rw [okF_bad c q] at h; cases h
  rw [okF_go h1] at h
  cases d with
  | zero => exact absurd (Or.inr (Or.inl (by omega))) h1
  | succ d =>
    refine ⟨fun q => h1 (.inl q), by omega, ?_, h⟩
    by_cases q : sgB (rd l ((i + 1 : Nat) : Int)) = true
    · rw [okF_bad q (.inr (.inr (by rw [show i + 1 - 1 = i by omega]; exact c)))] at h; cases h
    · simpa using q
def vInv (S sg pr nu t p n c : Int) : Prop :=
  (c = 0 ∧ t = S ∧ p = wrap64 (sg * pr) ∧ n = nu) ∨
  (c = 42 ∧ t = S ∧ wrap64 (sg * pr) = wrap64 (p * n) ∧ nu = 0) ∨
  (c = 43 ∧ S = wrap64 (t + wrap64 (p * n)) ∧ sg = 1 ∧ pr = 1 ∧ nu = 0) ∨
  (c = 45 ∧ S = wrap64 (t + wrap64 (p * n)) ∧ sg = -1 ∧ pr = 1 ∧ nu = 0)
theorem dig_wrap (x : Int) : wrap64 (wrap64 (10 * 0) + (x - 48) % 256) = (x - 48) % 256 := by
  rw [wrap_add, Int.mul_zero, Int.zero_add, wrap_id (by omega) (by omega)]
theorem on_step {S sg pr nu t p n c : Int} (h : vInv S sg pr nu t p n c) (x : Int) : ∃ t' p' n', impl_reckoner_on.f t p n c x = some (t', p', n') ∧ vInv S sg pr (wrap64 (wrap64 (10 * nu) + (x - 48) % 256)) t' p' n' 0 := by
  unfold impl_reckoner_on.f impl_reckoner_value.f
  rcases h with ⟨rfl, rfl, rfl, rfl⟩ | ⟨rfl, rfl, h, rfl⟩ | ⟨rfl, rfl, rfl, rfl, rfl⟩ | ⟨rfl, rfl, rfl, rfl, rfl⟩
  · rw [if_neg (by omega), if_neg (by omega), if_neg (by omega)]
    exact ⟨_, _, _, rfl, .inl ⟨rfl, rfl, rfl, rfl⟩⟩
  · rw [if_pos rfl, dig_wrap]
    exact ⟨_, _, _, rfl, .inl ⟨rfl, rfl, h.symm, rfl⟩⟩
  · rw [if_neg (by omega), if_pos rfl, dig_wrap]
    exact ⟨_, _, _, rfl, .inl ⟨rfl, rfl, by rw [Int.mul_one, wrap_id (by omega) (by omega)], rfl⟩⟩
  · rw [if_neg (by omega), if_neg (by omega), if_pos rfl, dig_wrap]
    exact ⟨_, _, _, rfl, .inl ⟨rfl, rfl, by rw [Int.mul_one, wrap_id (by omega) (by omega)], rfl⟩⟩
theorem val_l0 (l : List Int) (hb : byts l) (hl : l.length ≤ 14) : ∀ (d i k m : Nat) (S sg pr nu t p n c : Int), i + d = l.length → 2 * d < k → d < m → okF l d i = true → vInv S sg pr nu t p n c → (c ≠ 0 → 0 < d ∧ sgB (rd l i) = false) →
    ∃ v, spec_sgValue.l0 k (strOfNums l) S sg pr nu i = some v ∧ impl_ValueOfSigned.l0 m (strOfNums l) c i t p n = some (v, true)
  | 0, i, k, m, S, sg, pr, nu, t, p, n, c, e, hk, hm, ho, hv, hc => by
    obtain ⟨k, rfl⟩ : ∃ j, k = j + 1 := ⟨k - 1, by omega⟩
    obtain ⟨m, rfl⟩ : ∃ j, m = j + 1 := ⟨m - 1, by omega⟩
    have c0 : c = 0 := Decidable.byContradiction fun q => by have := (hc q).1; omega
    subst c0
    rcases hv with ⟨_, rfl, rfl, rfl⟩ | ⟨q, _⟩ | ⟨q, _⟩ | ⟨q, _⟩
    · simp only [spec_sgValue.l0, impl_ValueOfSigned.l0, impl_reckoner_value.f]
      rw [son_size, if_neg (by omega), if_neg (by omega)]
      exact ⟨_, rfl, rfl⟩
    · omega
    · omega
    · omega
  | d + 1, i, k, m, S, sg, pr, nu, t, p, n, c, e, hk, hm, ho, hv, hc => by
    obtain ⟨k, rfl⟩ : ∃ j, k = j + 2 := ⟨k - 2, by omega⟩
    obtain ⟨m, rfl⟩ : ∃ j, m = j + 1 := ⟨m - 1, by omega⟩
    have hi : i < l.length := by omega
    have hrd := rd_get l i hi
    have w1 : wrap64 ((i : Int) + 1) = ((i + 1 : Nat) : Int) := by rw [wrap_id (by omega) (by omega)]; omega
    simp only [impl_ValueOfSigned.l0]
    rw [spec_sgValue.l0, son_size, if_pos (show (i : Int) < (l.length : Int) by omega), if_pos (show (0 : Int) ≤ (i : Int) by omega), son_bt l hb i hi, isSign_eq_, w1]
    rw [if_pos (show (i : Int) < (l.length : Int) by omega), if_pos (show (0 : Int) ≤ (i : Int) by omega)]
    simp only [Option.bind_some]
    by_cases c1 : sgB l[i] = true
    · rw [if_pos c1]
      have c1' : sgB (rd l i) = true := by rw [hrd]; exact c1
      have hn := okF_next e ho c1'
      have c0 : c = 0 := Decidable.byContradiction fun q => by rw [(hc q).2] at c1'; cases c1'
      subst c0
      rcases hv with ⟨_, rfl, rfl, rfl⟩ | ⟨q, _⟩ | ⟨q, _⟩ | ⟨q, _⟩
      · by_cases x1 : l[i] = 42
        · rw [if_pos x1, x1]
          exact val_l0 l hb hl d (i + 1) _ _ _ _ _ _ _ _ _ _ (by omega) (by omega) (by omega) hn.2.2.2 (.inr (.inl ⟨rfl, rfl, by rw [wrap_mul_r, wrap_mul, Int.mul_assoc], rfl⟩)) (fun _ => ⟨hn.2.1, hn.2.2.1⟩)
        · rw [if_neg x1]
          by_cases x2 : l[i] = 43
          · rw [if_pos x2, x2, show ((43 : Int) == 43) = true from rfl, spec_sgValue.j1, son_size, if_pos rfl, if_pos (show (0 : Int) ≤ (i : Int) by omega), if_pos (show (i : Int) < (l.length : Int) by omega), son_bt l hb i hi, x2, if_neg (by omega), w1]
            have := val_l0 l hb hl d (i + 1) k m (wrap64 (t + wrap64 (wrap64 (sg * pr) * n))) 1 1 0 t (wrap64 (sg * pr)) n 43 (by omega) (by omega) (by omega) hn.2.2.2 (.inr (.inr (.inl ⟨rfl, rfl, rfl, rfl, rfl⟩))) (fun _ => ⟨hn.2.1, hn.2.2.1⟩)
            exact this
          · have x3 : l[i] = 45 := by
              simp only [sgB, Bool.or_eq_true, beq_iff_eq] at c1
              omega
            rw [if_neg x2, x3, show ((45 : Int) == 45) = true from rfl, spec_sgValue.j1, son_size, if_pos rfl, if_pos (show (0 : Int) ≤ (i : Int) by omega), if_pos (show (i : Int) < (l.length : Int) by omega), son_bt l hb i hi, x3, if_pos rfl, w1]
            have := val_l0 l hb hl d (i + 1) k m (wrap64 (t + wrap64 (wrap64 (sg * pr) * n))) (-1) 1 0 t (wrap64 (sg * pr)) n 45 (by omega) (by omega) (by omega) hn.2.2.2 (.inr (.inr (.inr ⟨rfl, rfl, rfl, rfl, rfl⟩))) (fun _ => ⟨hn.2.1, hn.2.2.1⟩)
            exact this
      · omega
      · omega
      · omega
    · rw [if_neg c1]
      have c1' : sgB (rd l i) = false := by rw [hrd]; simpa using c1
      rw [okF_no c1'] at ho
      obtain ⟨t', p', n', e1, hv'⟩ := on_step hv l[i]
      have n1 : ¬ l[i] = 42 := fun q => c1 (by rw [q]; rfl)
      have n2 : ¬ l[i] = 43 := fun q => c1 (by rw [q]; rfl)
      have n3 : (l[i] == 45) = false := beq_eq_false_iff_ne.2 fun q => c1 (by rw [q]; rfl)
      rw [e1, if_neg n1, if_neg n2, n3, spec_sgValue.j1, son_size, if_neg (by simp), if_pos (show (0 : Int) ≤ (i : Int) by omega), if_pos (show (i : Int) < (l.length : Int) by omega), son_bt l hb i hi, w1]
      simp only [Option.bind_some]
      obtain ⟨v, e2, e3⟩ := val_l0 l hb hl d (i + 1) k m _ _ _ _ _ _ _ _ (by omega) (by omega) (by omega) ho hv' (fun q => absurd rfl q)
      exact ⟨v, e2, e3⟩
theorem FnExactValueOfSigned : laws_FnExactValueOfSigned.Pure := by
  intro s hs
  obtain ⟨l, hb, rfl, hl⟩ := as_list s
  refine ⟨2 * l.length + 300, ?_⟩
  unfold laws_FnExactValueOfSigned.f
  by_cases h : ((strOfNums l).size : Int) > 1048576
  · rw [if_pos h]
  · rw [if_neg h]
    unfold spec_ValueOfSigned.f impl_ValueOfSigned.f
    rw [spec_sigood l hb _ (by omega), impl_signed l hb (by omega) _ (by omega)]
    by_cases c : sigB l = true
    · rw [c]
      have hs := sigB_len c
      have ho : okF l l.length 0 = true := by
        simp only [sigB, Bool.and_eq_true] at c
        exact c.1
      obtain ⟨d, hd⟩ : ∃ d, l.length = d + 1 := ⟨l.length - 1, by omega⟩
      have h0 : 0 < l.length := by omega
      have ns : sgB (rd l ((0 : Nat) : Int)) = false := by
        by_cases q : sgB (rd l ((0 : Nat) : Int)) = true
        · rw [hd, okF_bad q (.inl rfl)] at ho; cases ho
        · simpa using q
      rw [hd, okF_no ns] at ho
      rw [rd_get l 0 h0] at ns
      have e0 := son_bt l hb 0 h0
      rw [show ((0 : Nat) : Int) = 0 from rfl] at e0
      have n1 : ¬ l[0] = 42 := fun q => by rw [q] at ns; cases ns
      have n2 : ¬ l[0] = 43 := fun q => by rw [q] at ns; cases ns
      have n3 : (l[0] == 45) = false := beq_eq_false_iff_ne.2 fun q => by rw [q] at ns; cases ns
      obtain ⟨v, e1, e2⟩ := val_l0 l hb hs.1 d (0 + 1) (2 * l.length + 298) (2 * l.length + 300) 0 1 1 ((l[0] - 48) % 256) 0 1 ((l[0] - 48) % 256) 0 (by omega) (by omega) (by omega) ho (.inl ⟨rfl, rfl, by rw [Int.mul_one, wrap_id (by omega) (by omega)], rfl⟩) (fun q => absurd rfl q)
      have e3 : spec_sgValue.f (2 * l.length + 300) (strOfNums l) = some v := by
        unfold spec_sgValue.f
        rw [show 2 * l.length + 300 = 2 * l.length + 298 + 1 + 1 by omega, spec_sgValue.l0, son_size, if_pos (show (0 : Int) < (l.length : Int) by omega), if_pos (show (0 : Int) ≤ 0 by omega), e0, if_neg n1, if_neg n2, n3, spec_sgValue.j1, son_size, if_neg (by simp), if_pos (show (0 : Int) ≤ 0 by omega), if_pos (show (0 : Int) < (l.length : Int) by omega), e0, dig_wrap, wrap_id (by omega) (by omega)]
        exact e1
      have e4 : ((impl_begin.f (bt (strOfNums l) 0)).bind fun b => impl_ValueOfSigned.l0 (2 * l.length + 300) (strOfNums l) 0 1 b.1 b.2.1 b.2.2) = some (v, true) := by
        rw [impl_begin.f, Option.bind_some, e0]
        exact e2
      simp only [Option.bind_some]
      rw [if_pos trivial, if_pos trivial, e3, son_size, if_pos (by omega), e4]
      simp
    · simp [c]

end Go.Proofs.Ytpopjdoljpianaa.Pure
