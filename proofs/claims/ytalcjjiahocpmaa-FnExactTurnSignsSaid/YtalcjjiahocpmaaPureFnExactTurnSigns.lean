/- For every text the program's TurnSigns and the reference's answer alike: the plain law, without conditions. -/
import Derived.Test.YtalcjjiahocpmaaPFnExactTurnSignsx2
set_option linter.unusedVariables false
set_option linter.unusedSimpArgs false
namespace Go.Proofs.Ytalcjjiahocpmaa.Pure
open Go.RowKit Go.Proofs.Ytalcjjiahocpmaa.PFnExactTurnSigns Go.Proofs.YtalcjjiahocpmaaW.PrintWords Go.Proofs.YtalcjjiahocpmaaW.PrintLast Go.Proofs.YtalcjjiahocpmaaW.PrintMore

theorem wrap_id {x : Int} (h0 : -9223372036854775808 ≤ x) (h1 : x < 9223372036854775808) : wrap64 x = x := by
  unfold wrap64
  omega
theorem lit_wf {x : Int} (h : (Lit.int .i64 x).wf = true) : -9223372036854775808 ≤ x ∧ x < 9223372036854775808 := by
  have h2 := h
  simp [Lit.wf, IntKind.min, IntKind.max, IntKind.bits, IntKind.signed] at h2
  omega
theorem wrap_add (x y : Int) : wrap64 (wrap64 x + y) = wrap64 (x + y) := by
  have e : ∀ (m c : Int), ((x + c) % m - c + y + c) % m = (x + y + c) % m := fun m c => by
    have h1 : (x + c) % m - c + y + c = (x + c) % m + y := by generalize (x + c) % m = q; omega
    rw [h1, Int.emod_add_emod, show x + c + y = x + y + c by omega]
  unfold wrap64
  rw [e]
theorem wrap_sub (x y : Int) : wrap64 (wrap64 x - y) = wrap64 (x - y) := by
  rw [Int.sub_eq_add_neg, wrap_add, Int.sub_eq_add_neg]

def allFrom (s : ByteArray) : Nat → Nat → Bool
  | 0, _ => true
  | d + 1, i => if bt s i < 48 then false else if bt s i > 57 then false else allFrom s d (i + 1)
theorem allFrom_bt (s : ByteArray) : ∀ (d i : Nat), allFrom s d i = true → ∀ j : Nat, i ≤ j → j < i + d → 48 ≤ bt s j ∧ bt s j ≤ 57
  | 0, i, _, j, h1, h2 => by omega
  | d + 1, i, h, j, h1, h2 => by
    unfold allFrom at h
    by_cases c1 : bt s i < 48
    · rw [if_pos c1] at h; cases h
    · rw [if_neg c1] at h
      by_cases c2 : bt s i > 57
      · rw [if_pos c2] at h; cases h
      · rw [if_neg c2] at h
        by_cases e : j = i
        · subst e; omega
        · exact allFrom_bt s d (i + 1) h j (by omega) (by omega)
def good (s : ByteArray) : Bool := decide (2 ≤ s.size) && decide (s.size ≤ 12) && (s.size % 2 == 0) && allFrom s s.size 0
theorem good_size {s : ByteArray} (h : good s = true) : 2 ≤ s.size ∧ s.size ≤ 12 ∧ s.size % 2 = 0 := by
  simp [good] at h; omega
theorem good_bt {s : ByteArray} (h : good s = true) (j : Nat) (hj : j < s.size) : 48 ≤ bt s j ∧ bt s j ≤ 57 := by
  simp only [good, Bool.and_eq_true] at h
  exact allFrom_bt s s.size 0 h.2 j (by omega) (by omega)
theorem impl_digits_l0 (s : ByteArray) (lo hi : Int) (hn : s.size ≤ 1048576) : ∀ (d i k : Nat), i + d = s.size → d < k →
    impl_areDigits.l0 k s lo hi s.size i = some (allFrom s d i && (decide (lo ≤ s.size) && decide ((s.size : Int) ≤ hi)))
  | 0, i, k, h, hk => by
    obtain ⟨k, rfl⟩ : ∃ m, k = m + 1 := ⟨k - 1, by omega⟩
    simp only [impl_areDigits.l0, allFrom]
    rw [if_neg (by omega)]
    unfold impl_within.f
    by_cases c : lo ≤ (s.size : Int)
    · rw [if_pos c]; simp [c]
    · rw [if_neg c]; simp [c]
  | d + 1, i, k, h, hk => by
    obtain ⟨k, rfl⟩ : ∃ m, k = m + 1 := ⟨k - 1, by omega⟩
    simp only [impl_areDigits.l0, allFrom]
    rw [if_pos (by omega), if_pos (by omega), if_pos (by omega)]
    by_cases c1 : bt s i < 48
    · rw [if_pos c1, if_pos c1]; rfl
    · rw [if_neg c1, if_neg c1]
      by_cases c2 : bt s i > 57
      · rw [if_pos c2, if_pos c2]; rfl
      · rw [if_neg c2, if_neg c2, wrap_id (by omega) (by omega)]
        exact impl_digits_l0 s lo hi hn d (i + 1) k (by omega) (by omega)
theorem impl_digits (s : ByteArray) (lo hi : Int) (hn : s.size ≤ 1048576) (k : Nat) (hk : s.size < k) :
    impl_areDigits.f k s lo hi = some (allFrom s s.size 0 && (decide (lo ≤ s.size) && decide ((s.size : Int) ≤ hi))) := by
  unfold impl_areDigits.f
  exact impl_digits_l0 s lo hi hn s.size 0 k (by omega) hk
theorem son_size (l : List Int) : (strOfNums l).size = l.length := by simp [strOfNums, ByteArray.size]
theorem son_nil : (⟨#[]⟩ : ByteArray) = strOfNums [] := rfl
theorem son_append (l m : List Int) : strOfNums l ++ strOfNums m = strOfNums (l ++ m) := by
  apply ByteArray.ext
  simp [strOfNums]
theorem son_extract (l : List Int) (i j : Nat) : (strOfNums l).extract i j = strOfNums ((l.take j).drop i) := by
  apply ByteArray.ext
  rw [ByteArray.data_extract]
  apply Array.ext'
  simp [strOfNums, Array.toList_extract, List.extract, List.map_take, List.map_drop, List.drop_take]
def byts (l : List Int) : Prop := ∀ c ∈ l, 0 ≤ c ∧ c < 256
theorem son_bt (l : List Int) (h : byts l) (i : Nat) (hi : i < l.length) : bt (strOfNums l) i = l[i] := by
  unfold bt
  have h1 : (i : Int).toNat < (strOfNums l).size := by rw [son_size]; simpa using hi
  rw [dif_pos h1]
  have h2 := h l[i] (List.getElem_mem hi)
  have h3 : ((strOfNums l)[(i : Int).toNat]'h1) = UInt8.ofNat (l[i]).toNat := by
    show (strOfNums l).data[(i : Int).toNat] = _
    simp [strOfNums]
  rw [h3]
  simp
  omega
theorem bytesOf_byts (s : ByteArray) : byts (bytesOf s) := by
  intro c hc
  simp only [bytesOf, List.mem_map] at hc
  obtain ⟨b, _, rfl⟩ := hc
  have := b.toNat_lt
  omega
theorem son_bytesOf (s : ByteArray) : strOfNums (bytesOf s) = s := by
  apply ByteArray.ext
  apply Array.ext'
  simp [strOfNums, bytesOf, Function.comp_def]
def digs (l : List Int) : Prop := ∀ c ∈ l, 48 ≤ c ∧ c ≤ 57
theorem digs_byts {l : List Int} (h : digs l) : byts l := fun c hc => by have := h c hc; omega
theorem digs_append {l m : List Int} (h : digs l) (k : digs m) : digs (l ++ m) := fun c hc => by
  rcases List.mem_append.mp hc with hc | hc
  · exact h c hc
  · exact k c hc
theorem digs_one {c : Int} (h : 48 ≤ c ∧ c ≤ 57) : digs [c] := fun x hx => by simp at hx; subst hx; exact h
theorem digs_take {l : List Int} (h : digs l) (n : Nat) : digs (l.take n) := fun c hc => h c (List.mem_of_mem_take hc)
theorem digs_drop {l : List Int} (h : digs l) (n : Nat) : digs (l.drop n) := fun c hc => h c (List.mem_of_mem_drop hc)
def sN : List Int → Int
  | [] => 0
  | c :: l => (c - 48) + sN l
theorem sN_append (l m : List Int) : sN (l ++ m) = sN l + sN m := by
  induction l with
  | nil => simp [sN]
  | cons c l ih => simp [sN, ih]; omega
theorem sN_range (l : List Int) (h : digs l) : 0 ≤ sN l ∧ sN l ≤ 9 * l.length := by
  induction l with
  | nil => simp [sN]
  | cons c l ih =>
    have h1 := h c (by simp)
    have h2 := ih (fun x hx => h x (by simp [hx]))
    simp [sN]; omega

def nonS (l : List Int) : List Int := l.filter fun c => !sgB c
theorem nonS_cons (c : Int) (l : List Int) : nonS (c :: l) = if sgB c = true then nonS l else c :: nonS l := by
  unfold nonS
  cases h : sgB c <;> simp [List.filter_cons, h]
theorem nonS_append (l m : List Int) : nonS (l ++ m) = nonS l ++ nonS m := by simp [nonS]
theorem nonS_byts {l : List Int} (h : byts l) : byts (nonS l) := fun c hc => h c (List.mem_filter.mp hc).1
theorem nonS_len (l : List Int) : (nonS l).length ≤ l.length := List.length_filter_le _ _
theorem rd_get (l : List Int) (i : Nat) (h : i < l.length) : rd l (i : Int) = l[i] := by simp [rd, h]
theorem delL_filter (xs : List Int) : ∀ (d i j : Nat) (ys : List Int), j + d = xs.length → i ≤ j → ys.length = xs.length → ys.take i = nonS (xs.take j) → ys.drop j = xs.drop j →
    (delL d i j ys).2.take (delL d i j ys).1 = nonS xs
  | 0, i, j, ys, e, hij, hl, h1, h2 => by
    simp only [delL]
    rw [h1, List.take_of_length_le (by omega)]
  | d + 1, i, j, ys, e, hij, hl, h1, h2 => by
    have hj : j < xs.length := by omega
    have hjy : j < ys.length := by omega
    have e1 : ys[j] = xs[j] := by
      have a := List.drop_eq_getElem_cons hjy
      have b := List.drop_eq_getElem_cons hj
      rw [a, b] at h2
      exact (List.cons.inj h2).1
    have e2 : ys.drop (j + 1) = xs.drop (j + 1) := by
      have a := List.drop_eq_getElem_cons hjy
      have b := List.drop_eq_getElem_cons hj
      rw [a, b] at h2
      exact (List.cons.inj h2).2
    have e3 : nonS (xs.take (j + 1)) = if sgB xs[j] = true then nonS (xs.take j) else nonS (xs.take j) ++ [xs[j]] := by
      rw [List.take_succ_eq_append_getElem hj, nonS_append, nonS_cons]
      by_cases c : sgB xs[j] = true
      · rw [if_pos c, if_pos c]; simp [nonS]
      · rw [if_neg c, if_neg c]; simp [nonS]
    simp only [delL]
    rw [rd_get ys j hjy, e1]
    by_cases c : sgB xs[j] = true
    · rw [if_pos c]
      rw [if_pos c] at e3
      exact delL_filter xs d i (j + 1) ys (by omega) (by omega) hl (by rw [h1, e3]) e2
    · rw [if_neg c]
      rw [if_neg c] at e3
      refine delL_filter xs d (i + 1) (j + 1) (ys.set i xs[j]) (by omega) (by omega) (by rw [List.length_set]; exact hl) ?_ ?_
      · rw [e3, ← h1, List.take_succ_eq_append_getElem (by rw [List.length_set]; omega), List.getElem_set_self, List.take_set_of_le (Nat.le_refl i)]
      · rw [List.drop_set_of_lt (by omega)]
        exact e2
theorem idxL_all (xs : List Int) : ∀ (d i : Nat), i + d = xs.length → idxL xs d i = -1 → nonS (xs.drop i) = xs.drop i
  | 0, i, e, _ => by rw [List.drop_of_length_le (by omega)]; rfl
  | d + 1, i, e, h => by
    have hi : i < xs.length := by omega
    simp only [idxL] at h
    rw [rd_get xs i hi] at h
    by_cases c : sgB xs[i] = true
    · rw [if_pos c] at h; omega
    · rw [if_neg c] at h
      rw [List.drop_eq_getElem_cons hi, nonS_cons, if_neg c, idxL_all xs d (i + 1) (by omega) h]
theorem idxL_some (xs : List Int) : ∀ (d i m : Nat), i + d = xs.length → idxL xs d i = (m : Int) → i ≤ m ∧ m < xs.length ∧ nonS ((xs.take m).drop i) = (xs.take m).drop i ∧ sgB (rd xs (m : Int)) = true
  | 0, i, m, e, h => by simp only [idxL] at h; omega
  | d + 1, i, m, e, h => by
    have hi : i < xs.length := by omega
    simp only [idxL] at h
    by_cases c : sgB (rd xs i) = true
    · rw [if_pos c] at h
      have : i = m := by omega
      subst this
      exact ⟨Nat.le_refl _, hi, by rw [List.drop_of_length_le (by simp; omega)]; rfl, c⟩
    · rw [if_neg c] at h
      obtain ⟨h1, h2, h3, h4⟩ := idxL_some xs d (i + 1) m (by omega) h
      refine ⟨by omega, h2, ?_, h4⟩
      rw [rd_get xs i hi] at c
      have hi2 : i < (xs.take m).length := by simp; omega
      rw [List.drop_eq_getElem_cons hi2, nonS_cons]
      simp only [List.getElem_take]
      rw [if_neg c, h3]
theorem plainL_eq (xs : List Int) : plainL xs = nonS xs := by
  unfold plainL
  by_cases c : idxL xs xs.length 0 = -1
  · rw [if_pos c]
    have := idxL_all xs xs.length 0 (by omega) c
    rw [List.drop_zero] at this
    exact this.symm
  · rw [if_neg c]
    rcases idxL_range xs xs.length 0 with hm | ⟨m, hm, _, hm2⟩
    · exact absurd hm c
    · obtain ⟨_, h2, h3, h4⟩ := idxL_some xs xs.length 0 m (by omega) hm
      rw [hm, Int.toNat_natCast]
      rw [List.drop_zero] at h3
      refine delL_filter xs _ m (m + 1) xs (by omega) (by omega) rfl ?_ rfl
      rw [rd_get xs m h2] at h4
      rw [List.take_succ_eq_append_getElem h2, nonS_append, nonS_cons, if_pos h4, h3]
      simp [nonS]
def okF (l : List Int) : Nat → Nat → Bool
  | 0, _ => true
  | d + 1, i => if sgB (rd l i) = true ∧ (i = 0 ∨ i = l.length - 1 ∨ sgB (rd l ((i - 1 : Nat) : Int)) = true) then false else okF l d (i + 1)
theorem okF_no {l : List Int} {d i : Nat} (h : sgB (rd l i) = false) : okF l (d + 1) i = okF l d (i + 1) := by
  simp only [okF]; rw [if_neg (fun q => by rw [h] at q; cases q.1)]
theorem okF_bad {l : List Int} {d i : Nat} (h : sgB (rd l i) = true) (c : i = 0 ∨ i = l.length - 1 ∨ sgB (rd l ((i - 1 : Nat) : Int)) = true) : okF l (d + 1) i = false := by
  simp only [okF]; rw [if_pos ⟨h, c⟩]
theorem okF_go {l : List Int} {d i : Nat} (c : ¬ (i = 0 ∨ i = l.length - 1 ∨ sgB (rd l ((i - 1 : Nat) : Int)) = true)) : okF l (d + 1) i = okF l d (i + 1) := by
  simp only [okF]; rw [if_neg (fun q => c q.2)]
def digOk (q : List Int) : Bool := decide (1 ≤ q.length) && decide (q.length ≤ 7) && allFrom (strOfNums q) q.length 0
def sigB (l : List Int) : Bool := okF l l.length 0 && digOk (nonS l)
theorem okF_len (l : List Int) : ∀ (d i : Nat), i + d = l.length → okF l d i = true → d ≤ 2 * (nonS (l.drop i)).length ∧ (∀ h : i < l.length, sgB l[i] = false → d + 1 ≤ 2 * (nonS (l.drop i)).length)
  | 0, i, e, _ => ⟨by omega, fun h => by omega⟩
  | d + 1, i, e, h => by
    have hi : i < l.length := by omega
    simp only [okF] at h
    rw [rd_get l i hi] at h
    by_cases c : sgB l[i] = true
    · have h1 : ¬ (i = 0 ∨ i = l.length - 1 ∨ sgB (rd l ((i - 1 : Nat) : Int)) = true) := fun q => by rw [if_pos ⟨c, q⟩] at h; cases h
      rw [if_neg (fun q => h1 q.2)] at h
      have h2 := okF_len l d (i + 1) (by omega) h
      have hi1 : i + 1 < l.length := by omega
      have hns : sgB l[i + 1] = false := by
        cases d with
        | zero => omega
        | succ d =>
          simp only [okF] at h
          rw [rd_get l (i + 1) hi1] at h
          by_cases q : sgB l[i + 1] = true
          · rw [if_pos ⟨q, .inr (.inr (by rw [show i + 1 - 1 = i by omega, rd_get l i hi]; exact c))⟩] at h; cases h
          · simpa using q
      have h3 := h2.2 hi1 hns
      rw [List.drop_eq_getElem_cons hi, nonS_cons, if_pos c]
      exact ⟨by omega, fun _ q => by rw [c] at q; cases q⟩
    · rw [if_neg (fun q => c q.1)] at h
      have h2 := okF_len l d (i + 1) (by omega) h
      rw [List.drop_eq_getElem_cons hi, nonS_cons, if_neg c]
      simp only [List.length_cons]
      exact ⟨by omega, fun _ _ => by omega⟩
theorem sigB_len {l : List Int} (h : sigB l = true) : l.length ≤ 14 ∧ 1 ≤ l.length := by
  simp only [sigB, digOk, Bool.and_eq_true, decide_eq_true_eq] at h
  have := (okF_len l l.length 0 (by omega) h.1).1
  rw [List.drop_zero] at this
  have h2 := nonS_len l
  omega
theorem spec_sign_eq (c : Int) : spec_sgSign.f c = some (sgB c) := by
  unfold spec_sgSign.f sgB
  by_cases h1 : c = 43
  · rw [if_pos h1]; simp [h1]
  · rw [if_neg h1]
    by_cases h2 : c = 45
    · rw [if_pos h2]; simp [h2]
    · have b1 : (c == 43) = false := beq_eq_false_iff_ne.2 h1
      have b2 : (c == 45) = false := beq_eq_false_iff_ne.2 h2
      rw [if_neg h2, b1, b2]
      rfl
theorem spec_dig_l0 (s : ByteArray) (hn : s.size ≤ 1048576) : ∀ (d i k : Nat), i + d = s.size → d < k → spec_sgDigits.l0 k s i = some (allFrom s d i)
  | 0, i, k, h, hk => by
    obtain ⟨k, rfl⟩ : ∃ m, k = m + 1 := ⟨k - 1, by omega⟩
    simp only [spec_sgDigits.l0, allFrom]
    rw [if_neg (by omega)]
  | d + 1, i, k, h, hk => by
    obtain ⟨k, rfl⟩ : ∃ m, k = m + 1 := ⟨k - 1, by omega⟩
    simp only [spec_sgDigits.l0, allFrom]
    rw [if_pos (by omega), if_pos (by omega)]
    by_cases c1 : bt s i < 48
    · rw [if_pos c1, if_pos c1]
    · rw [if_neg c1, if_neg c1]
      by_cases c2 : bt s i > 57
      · rw [if_pos c2, if_pos c2]
      · rw [if_neg c2, if_neg c2, wrap_id (by omega) (by omega)]
        exact spec_dig_l0 s hn d (i + 1) k (by omega) (by omega)
theorem spec_dig (q : List Int) (hq : q.length ≤ 1048576) (k : Nat) (hk : q.length < k) : spec_sgDigits.f k (strOfNums q) = some (digOk q) := by
  unfold spec_sgDigits.f spec_l1In.f digOk
  rw [son_size]
  by_cases h1 : (q.length : Int) ≥ 1
  · rw [if_pos h1]; simp only [Option.bind_some]
    have a1 : 1 ≤ q.length := by omega
    by_cases h2 : (q.length : Int) ≤ 7
    · have a2 : q.length ≤ 7 := by omega
      rw [if_pos (by simpa using h2)]
      have := spec_dig_l0 (strOfNums q) (by rw [son_size]; exact hq) q.length 0 k (by rw [son_size]; omega) hk
      rw [show ((0 : Nat) : Int) = 0 from rfl] at this
      rw [this]
      simp [a1, a2]
    · have a2 : ¬ q.length ≤ 7 := by omega
      rw [if_neg (by simpa using h2)]
      simp [a2]
  · have a1 : ¬ 1 ≤ q.length := by omega
    rw [if_neg h1]; simp only [Option.bind_some]
    rw [if_neg (by simp)]
    simp [a1]
theorem impl_some (q : List Int) (hq : q.length ≤ 1048576) (k : Nat) (hk : q.length < k) : impl_areSome.f k (strOfNums q) = some (digOk q) := by
  unfold impl_areSome.f digOk
  rw [impl_digits _ 1 7 (by rw [son_size]; exact hq) k (by rw [son_size]; exact hk), son_size]
  simp only [Option.bind_some]
  congr 1
  rw [Bool.and_comm]
  congr 1
  congr 1
  · rw [Bool.eq_iff_iff, decide_eq_true_eq, decide_eq_true_eq]; omega
  · rw [Bool.eq_iff_iff, decide_eq_true_eq, decide_eq_true_eq]; omega
theorem spec_plain_l0 (l : List Int) (hb : byts l) (hl : l.length ≤ 14) : ∀ (d i k : Nat) (a : List Int), i + d = l.length → a.length ≤ i → 100 + d < k →
    spec_sgPlainDigits.l0 k (strOfNums l) (strOfNums a) i = some (if okF l d i = true then (strOfNums (a ++ nonS (l.drop i)), digOk (a ++ nonS (l.drop i))) else ((⟨#[]⟩ : ByteArray), false))
  | 0, i, k, a, e, ha, hk => by
    obtain ⟨k, rfl⟩ : ∃ m, k = m + 1 := ⟨k - 1, by omega⟩
    simp only [spec_sgPlainDigits.l0, okF]
    rw [son_size, if_neg (by omega), spec_dig a (by omega) k (by omega), List.drop_of_length_le (by omega)]
    simp [nonS]
  | d + 1, i, k, a, e, ha, hk => by
    obtain ⟨k, rfl⟩ : ∃ m, k = m + 1 := ⟨k - 1, by omega⟩
    have hi : i < l.length := by omega
    have hdr := List.drop_eq_getElem_cons hi
    have hrd := rd_get l i hi
    simp only [spec_sgPlainDigits.l0]
    rw [son_size, if_pos (by omega), if_pos (by omega), son_bt l hb i hi, spec_sign_eq]
    simp only [Option.bind_some]
    have w1 : wrap64 ((i : Int) + 1) = ((i + 1 : Nat) : Int) := by rw [wrap_id (by omega) (by omega)]; omega
    by_cases c : sgB l[i] = true
    · have c' : sgB (rd l i) = true := by rw [hrd]; exact c
      rw [if_pos c]
      by_cases c0 : i = 0
      · rw [if_pos (by omega), okF_bad c' (.inl c0), if_neg (by simp)]
      · rw [if_neg (by omega)]
        by_cases c1 : i = l.length - 1
        · rw [if_pos (by rw [wrap_id (by omega) (by omega)]; omega), okF_bad c' (.inr (.inl c1)), if_neg (by simp)]
        · have w2 : wrap64 ((i : Int) - 1) = ((i - 1 : Nat) : Int) := by rw [wrap_id (by omega) (by omega)]; omega
          have hrd2 := rd_get l (i - 1) (by omega)
          rw [if_neg (by rw [wrap_id (by omega) (by omega)]; omega), w2, if_pos (by omega), if_pos (by omega), son_bt l hb (i - 1) (by omega), spec_sign_eq]
          simp only [Option.bind_some]
          by_cases c2 : sgB l[i - 1] = true
          · rw [if_pos c2, okF_bad c' (.inr (.inr (by rw [hrd2]; exact c2))), if_neg (by simp)]
          · rw [if_neg c2, okF_go (by rw [hrd2]; rintro (q | q | q) <;> contradiction), w1, spec_plain_l0 l hb hl d (i + 1) k a (by omega) (by omega) (by omega), hdr, nonS_cons, if_pos c]
    · have c' : sgB (rd l i) = false := by rw [hrd]; simpa using c
      rw [if_neg c, okF_no c', w1, if_pos (by omega), if_pos (by omega), show ((i + 1 : Nat) : Int).toNat = i + 1 by omega, Int.toNat_natCast, son_extract]
      have e1 : (l.take (i + 1)).drop i = [l[i]] := by
        rw [List.take_succ_eq_append_getElem hi, List.drop_append_of_le_length (by simp; omega)]
        simp
      rw [e1, son_size, son_size, if_pos (by simp; omega), son_append, spec_plain_l0 l hb hl d (i + 1) k (a ++ [l[i]]) (by omega) (by simp; omega) (by omega), hdr, nonS_cons, if_neg c, List.append_assoc]
      rfl
theorem spec_plain (l : List Int) (hb : byts l) (k : Nat) (hk : 200 < k) : spec_sgPlainDigits.f k (strOfNums l) = some (if l.length ≤ 14 ∧ okF l l.length 0 = true then (strOfNums (nonS l), digOk (nonS l)) else ((⟨#[]⟩ : ByteArray), false)) := by
  unfold spec_sgPlainDigits.f
  rw [son_size]
  by_cases h : (l.length : Int) > 14
  · rw [if_pos h, if_neg (by omega)]
  · rw [if_neg h]
    have := spec_plain_l0 l hb (by omega) l.length 0 k [] (by omega) (by simp) (by omega)
    rw [List.drop_zero, List.nil_append] at this
    rw [son_nil, show (0 : Int) = ((0 : Nat) : Int) from rfl, this]
    by_cases c : okF l l.length 0 = true
    · rw [if_pos c, if_pos ⟨by omega, c⟩]
    · rw [if_neg c, if_neg (fun q => c q.2)]
      rfl
theorem spec_plain_good (l : List Int) (hb : byts l) (k : Nat) (hk : 200 < k) : spec_sgPlainDigits.f k (strOfNums l) = some (if sigB l = true then (strOfNums (nonS l), true) else ((if l.length ≤ 14 ∧ okF l l.length 0 = true then strOfNums (nonS l) else (⟨#[]⟩ : ByteArray)), false)) := by
  rw [spec_plain l hb k hk]
  congr 1
  by_cases c : sigB l = true
  · have hl := sigB_len c
    rw [if_pos c]
    simp only [sigB, Bool.and_eq_true] at c
    rw [if_pos ⟨hl.1, c.1⟩, c.2]
  · rw [if_neg c]
    by_cases h : l.length ≤ 14 ∧ okF l l.length 0 = true
    · rw [if_pos h, if_pos h]
      have : digOk (nonS l) = false := by
        rw [← Bool.not_eq_true]
        intro q
        exact c (by simp only [sigB, Bool.and_eq_true]; exact ⟨h.2, q⟩)
      rw [this]
    · rw [if_neg h, if_neg h]
theorem spec_sigood (l : List Int) (hb : byts l) (k : Nat) (hk : 200 < k) : spec_sgGood.f k (strOfNums l) = some (sigB l) := by
  unfold spec_sgGood.f
  rw [spec_plain_good l hb k hk]
  simp only [Option.bind_some]
  by_cases c : sigB l = true
  · rw [if_pos c, c]
  · rw [if_neg c]
    simp only [Bool.not_eq_true] at c
    rw [c]
theorem byt_son (l : List Int) (h : byts l) : bytesOf (strOfNums l) = l := by
  unfold bytesOf strOfNums
  simp only [List.map_map]
  rw [List.map_congr_left (g := id) (fun c hc => by have := h c hc; simp; omega)]
  simp
theorem impl_plain (l : List Int) (hb : byts l) (hl : l.length ≤ 1048576) : impl_plainDigits.f (strOfNums l) = some (strOfNums (nonS l)) := by
  unfold impl_plainDigits.f
  rw [son_size, if_pos hl, byt_son l hb, plainL_eq]
theorem impl_signed_l0 (l : List Int) (hb : byts l) (hl : l.length ≤ 1048576) : ∀ (d i k : Nat), i + d = l.length → l.length + 1 + d < k →
    impl_IsSigned.l0 k (strOfNums l) l.length i = some (okF l d i && digOk (nonS l))
  | 0, i, k, e, hk => by
    obtain ⟨k, rfl⟩ : ∃ m, k = m + 1 := ⟨k - 1, by omega⟩
    have := nonS_len l
    simp only [impl_IsSigned.l0, okF]
    rw [if_neg (by omega), impl_plain l hb hl]
    simp only [Option.bind_some]
    rw [impl_some _ (by omega) k (by omega)]
    simp
  | d + 1, i, k, e, hk => by
    obtain ⟨k, rfl⟩ : ∃ m, k = m + 1 := ⟨k - 1, by omega⟩
    have hi : i < l.length := by omega
    have hrd := rd_get l i hi
    simp only [impl_IsSigned.l0]
    rw [son_size, if_pos (by omega), if_pos (by omega), if_pos (by omega), son_bt l hb i hi, isSign_eq_]
    simp only [Option.bind_some]
    have w1 : wrap64 ((i : Int) + 1) = ((i + 1 : Nat) : Int) := by rw [wrap_id (by omega) (by omega)]; omega
    rw [w1]
    by_cases c : sgB l[i] = true
    · have c' : sgB (rd l i) = true := by rw [hrd]; exact c
      rw [if_pos c]
      by_cases c0 : i = 0
      · rw [if_pos (by omega), okF_bad c' (.inl c0)]; rfl
      · rw [if_neg (by omega)]
        by_cases c1 : i = l.length - 1
        · rw [if_pos (by rw [wrap_id (by omega) (by omega)]; omega), okF_bad c' (.inr (.inl c1))]; rfl
        · have w2 : wrap64 ((i : Int) - 1) = ((i - 1 : Nat) : Int) := by rw [wrap_id (by omega) (by omega)]; omega
          have hrd2 := rd_get l (i - 1) (by omega)
          rw [if_neg (by rw [wrap_id (by omega) (by omega)]; omega), w2, if_pos (by omega), if_pos (by omega), son_bt l hb (i - 1) (by omega), isSign_eq_]
          simp only [Option.bind_some]
          by_cases c2 : sgB l[i - 1] = true
          · rw [if_pos c2, okF_bad c' (.inr (.inr (by rw [hrd2]; exact c2)))]; rfl
          · rw [if_neg c2, okF_go (by rw [hrd2]; rintro (q | q | q) <;> contradiction)]
            exact impl_signed_l0 l hb hl d (i + 1) k (by omega) (by omega)
    · have c' : sgB (rd l i) = false := by rw [hrd]; simpa using c
      rw [if_neg c, okF_no c']
      exact impl_signed_l0 l hb hl d (i + 1) k (by omega) (by omega)
theorem impl_signed (l : List Int) (hb : byts l) (hl : l.length ≤ 1048576) (k : Nat) (hk : 2 * l.length + 1 < k) : impl_IsSigned.f k (strOfNums l) = some (sigB l) := by
  unfold impl_IsSigned.f
  rw [son_size]
  exact impl_signed_l0 l hb hl l.length 0 k (by omega) (by omega)
theorem as_list (s : ByteArray) : ∃ l : List Int, byts l ∧ s = strOfNums l ∧ l.length = s.size := ⟨bytesOf s, bytesOf_byts s, (son_bytesOf s).symm, bytesOf_length s⟩

def tS (c : Int) : Int := if c = 43 then 45 else if c = 45 then 43 else c
set_option maxRecDepth 100000 in
theorem turned_tS (c : Int) (h : 0 ≤ c ∧ c < 256) : Go.Proofs.Ytalcjjiahocpmaa.Rep.turned c = tS c := by
  have h0 : ∀ n : Nat, n < 256 → Go.Proofs.Ytalcjjiahocpmaa.Rep.turned (n : Int) = tS (n : Int) := by decide
  have := h0 c.toNat (by omega)
  rwa [show ((c.toNat : Nat) : Int) = c by omega] at this
theorem turned_map (l : List Int) (hb : byts l) : l.map Go.Proofs.Ytalcjjiahocpmaa.Rep.turned = l.map tS := List.map_congr_left fun c hc => turned_tS c (hb c hc)
theorem impl_turn (l : List Int) (hb : byts l) (hl : l.length ≤ 1048576) (k : Nat) (hk : 2 * l.length + 1 < k) : impl_TurnSigns.f k (strOfNums l) = some (if sigB l = true then (strOfNums (l.map tS), true) else ((⟨#[]⟩ : ByteArray), false)) := by
  unfold impl_TurnSigns.f
  rw [impl_signed l hb hl k hk, Option.bind_some]
  by_cases h : sigB l = true
  · rw [if_pos h, if_pos h, if_pos (by rw [son_size]; exact hl), byt_son l hb, turned_map l hb]
  · rw [if_neg h, if_neg h]
theorem spec_turn_l0 (l : List Int) (hb : byts l) (hl : l.length ≤ 1048576) : ∀ (d i k : Nat) (a : List Int), i + d = l.length → a.length = i → d < k → spec_TurnSigns.l0 k (strOfNums l) (strOfNums a) (i : Int) = some (strOfNums (a ++ (l.drop i).map tS), true)
  | 0, i, k, a, e, ha, hk => by
    obtain ⟨k, rfl⟩ : ∃ j, k = j + 1 := ⟨k - 1, by omega⟩
    simp only [spec_TurnSigns.l0]
    rw [if_neg (by rw [son_size]; omega), List.drop_of_length_le (by omega)]
    simp
  | d + 1, i, k, a, e, ha, hk => by
    obtain ⟨k, rfl⟩ : ∃ j, k = j + 1 := ⟨k - 1, by omega⟩
    have hi : i < l.length := by omega
    have hw : wrap64 ((i : Int) + 1) = ((i + 1 : Nat) : Int) := by rw [wrap_id (by omega) (by omega)]; rfl
    have hd : (l.drop i).map tS = tS l[i] :: (l.drop (i + 1)).map tS := by rw [List.drop_eq_getElem_cons hi, List.map_cons]
    have hx : (strOfNums l).extract i (i + 1) = strOfNums [l[i]] := by
      rw [son_extract, List.take_succ_eq_append_getElem hi, List.drop_append_of_le_length (by simp; omega), List.drop_of_length_le (by simp; omega), List.nil_append]
    have go : ∀ c : Int, c = tS l[i] → spec_TurnSigns.l0 k (strOfNums l) (strOfNums (a ++ [c])) ((i + 1 : Nat) : Int) = some (strOfNums (a ++ (l.drop i).map tS), true) := fun c hc => by
      rw [spec_turn_l0 l hb hl d (i + 1) k (a ++ [c]) (by omega) (by simp [ha]) (by omega), hd, hc]
      simp
    simp only [spec_TurnSigns.l0]
    rw [if_pos (by rw [son_size]; omega), if_pos (by omega), son_bt l hb i hi, hw]
    by_cases c1 : l[i] = 43
    · rw [if_pos c1, if_pos (by rw [son_size]; omega), show (⟨#[45]⟩ : ByteArray) = strOfNums [45] from rfl, son_append]
      exact go 45 (by rw [c1]; rfl)
    · rw [if_neg c1]
      by_cases c2 : l[i] = 45
      · rw [if_pos c2, if_pos (by rw [son_size]; omega), show (⟨#[43]⟩ : ByteArray) = strOfNums [43] from rfl, son_append]
        exact go 43 (by rw [c2]; rfl)
      · rw [if_neg c2, if_pos (by omega), if_pos (by rw [son_size]; omega), Int.toNat_natCast, Int.toNat_natCast, hx, if_pos (by rw [son_size, son_size]; simp only [List.length_cons, List.length_nil]; omega), son_append]
        exact go _ (by unfold tS; rw [if_neg c1, if_neg c2])
theorem FnExactTurnSigns : laws_FnExactTurnSigns.Pure := by
  intro s hs
  obtain ⟨l, hb, rfl, hl⟩ := as_list s
  refine ⟨2 * l.length + 300, ?_⟩
  unfold laws_FnExactTurnSigns.f
  by_cases h : ((strOfNums l).size : Int) > 1048576
  · rw [if_pos h]
  · rw [if_neg h]
    rw [son_size] at h
    have hl2 : l.length ≤ 1048576 := by omega
    unfold spec_TurnSigns.f
    rw [spec_sigood l hb _ (by omega), impl_turn l hb hl2 _ (by omega)]
    simp only [Option.bind_some]
    by_cases g : sigB l = true
    · have e := spec_turn_l0 l hb hl2 l.length 0 (2 * l.length + 300) [] (by omega) rfl (by omega)
      rw [List.drop_zero, List.nil_append] at e
      rw [if_pos g, show (⟨#[]⟩ : ByteArray) = strOfNums [] from rfl, show (0 : Int) = ((0 : Nat) : Int) from rfl, e]
      simp [g]
    · rw [if_neg g]
      simp [g]

end Go.Proofs.Ytalcjjiahocpmaa.Pure
