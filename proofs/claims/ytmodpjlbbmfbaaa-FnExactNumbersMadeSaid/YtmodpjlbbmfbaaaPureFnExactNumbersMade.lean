/- For every text the program's NumbersMade and the reference's answer alike: the plain law, without conditions. -/
import Derived.Test.YtmodpjlbbmfbaaaPFnExactNumbersMadex7
set_option linter.unusedVariables false
set_option linter.unusedSimpArgs false
namespace Go.Proofs.Ytmodpjlbbmfbaaa.Pure
open Go.RowKit Go.Proofs.Ytmodpjlbbmfbaaa.PFnExactNumbersMade Go.Proofs.YtmodpjlbbmfbaaaW.PrintWords Go.Proofs.YtmodpjlbbmfbaaaW.PrintLast Go.Proofs.YtmodpjlbbmfbaaaW.PrintMore

theorem wrap_id {x : Int} (h0 : -9223372036854775808 ≤ x) (h1 : x < 9223372036854775808) : wrap64 x = x := by
  unfold wrap64
  omega
theorem lit_wf {x : Int} (h : (Lit.int .i64 x).wf = true) : -9223372036854775808 ≤ x ∧ x < 9223372036854775808 := by
  have h2 := h
  simp [Lit.wf, IntKind.min, IntKind.max, IntKind.bits, IntKind.signed] at h2
  omega
theorem wrap_add (x y : Int) : wrap64 (wrap64 x + y) = wrap64 (x + y) := by
  have e : ∀ (m c : Int), ((x + c) % m - c + y + c) % m = (x + y + c) % m := fun m c => by
    have h1 : (x + c) % m - c + y + c = (x + c) % m + y := by generalize (x + c) % m = q; omega
    rw [h1, Int.emod_add_emod, show x + c + y = x + y + c by omega]
  unfold wrap64
  rw [e]
theorem wrap_sub (x y : Int) : wrap64 (wrap64 x - y) = wrap64 (x - y) := by
  rw [Int.sub_eq_add_neg, wrap_add, Int.sub_eq_add_neg]

def allFrom (s : ByteArray) : Nat → Nat → Bool
  | 0, _ => true
  | d + 1, i => if bt s i < 48 then false else if bt s i > 57 then false else allFrom s d (i + 1)
theorem allFrom_bt (s : ByteArray) : ∀ (d i : Nat), allFrom s d i = true → ∀ j : Nat, i ≤ j → j < i + d → 48 ≤ bt s j ∧ bt s j ≤ 57
  | 0, i, _, j, h1, h2 => by omega
  | d + 1, i, h, j, h1, h2 => by
    unfold allFrom at h
    by_cases c1 : bt s i < 48
    · rw [if_pos c1] at h; cases h
    · rw [if_neg c1] at h
      by_cases c2 : bt s i > 57
      · rw [if_pos c2] at h; cases h
      · rw [if_neg c2] at h
        by_cases e : j = i
        · subst e; omega
        · exact allFrom_bt s d (i + 1) h j (by omega) (by omega)
def good (s : ByteArray) : Bool := decide (2 ≤ s.size) && decide (s.size ≤ 12) && (s.size % 2 == 0) && allFrom s s.size 0
theorem good_size {s : ByteArray} (h : good s = true) : 2 ≤ s.size ∧ s.size ≤ 12 ∧ s.size % 2 = 0 := by
  simp [good] at h; omega
theorem good_bt {s : ByteArray} (h : good s = true) (j : Nat) (hj : j < s.size) : 48 ≤ bt s j ∧ bt s j ≤ 57 := by
  simp only [good, Bool.and_eq_true] at h
  exact allFrom_bt s s.size 0 h.2 j (by omega) (by omega)
theorem impl_digits_l0 (s : ByteArray) (lo hi : Int) (hn : s.size ≤ 1048576) : ∀ (d i k : Nat), i + d = s.size → d < k →
    impl_areDigits.l0 k s lo hi s.size i = some (allFrom s d i && (decide (lo ≤ s.size) && decide ((s.size : Int) ≤ hi)))
  | 0, i, k, h, hk => by
    obtain ⟨k, rfl⟩ : ∃ m, k = m + 1 := ⟨k - 1, by omega⟩
    simp only [impl_areDigits.l0, allFrom]
    rw [if_neg (by omega)]
    unfold impl_within.f
    by_cases c : lo ≤ (s.size : Int)
    · rw [if_pos c]; simp [c]
    · rw [if_neg c]; simp [c]
  | d + 1, i, k, h, hk => by
    obtain ⟨k, rfl⟩ : ∃ m, k = m + 1 := ⟨k - 1, by omega⟩
    simp only [impl_areDigits.l0, allFrom]
    rw [if_pos (by omega), if_pos (by omega), if_pos (by omega)]
    by_cases c1 : bt s i < 48
    · rw [if_pos c1, if_pos c1]; rfl
    · rw [if_neg c1, if_neg c1]
      by_cases c2 : bt s i > 57
      · rw [if_pos c2, if_pos c2]; rfl
      · rw [if_neg c2, if_neg c2, wrap_id (by omega) (by omega)]
        exact impl_digits_l0 s lo hi hn d (i + 1) k (by omega) (by omega)
theorem impl_digits (s : ByteArray) (lo hi : Int) (hn : s.size ≤ 1048576) (k : Nat) (hk : s.size < k) :
    impl_areDigits.f k s lo hi = some (allFrom s s.size 0 && (decide (lo ≤ s.size) && decide ((s.size : Int) ≤ hi))) := by
  unfold impl_areDigits.f
  exact impl_digits_l0 s lo hi hn s.size 0 k (by omega) hk
theorem son_size (l : List Int) : (strOfNums l).size = l.length := by simp [strOfNums, ByteArray.size]
theorem son_nil : (⟨#[]⟩ : ByteArray) = strOfNums [] := rfl
theorem son_append (l m : List Int) : strOfNums l ++ strOfNums m = strOfNums (l ++ m) := by
  apply ByteArray.ext
  simp [strOfNums]
theorem son_extract (l : List Int) (i j : Nat) : (strOfNums l).extract i j = strOfNums ((l.take j).drop i) := by
  apply ByteArray.ext
  rw [ByteArray.data_extract]
  apply Array.ext'
  simp [strOfNums, Array.toList_extract, List.extract, List.map_take, List.map_drop, List.drop_take]
def byts (l : List Int) : Prop := ∀ c ∈ l, 0 ≤ c ∧ c < 256
theorem son_bt (l : List Int) (h : byts l) (i : Nat) (hi : i < l.length) : bt (strOfNums l) i = l[i] := by
  unfold bt
  have h1 : (i : Int).toNat < (strOfNums l).size := by rw [son_size]; simpa using hi
  rw [dif_pos h1]
  have h2 := h l[i] (List.getElem_mem hi)
  have h3 : ((strOfNums l)[(i : Int).toNat]'h1) = UInt8.ofNat (l[i]).toNat := by
    show (strOfNums l).data[(i : Int).toNat] = _
    simp [strOfNums]
  rw [h3]
  simp
  omega
theorem bytesOf_byts (s : ByteArray) : byts (bytesOf s) := by
  intro c hc
  simp only [bytesOf, List.mem_map] at hc
  obtain ⟨b, _, rfl⟩ := hc
  have := b.toNat_lt
  omega
theorem son_bytesOf (s : ByteArray) : strOfNums (bytesOf s) = s := by
  apply ByteArray.ext
  apply Array.ext'
  simp [strOfNums, bytesOf, Function.comp_def]
def digs (l : List Int) : Prop := ∀ c ∈ l, 48 ≤ c ∧ c ≤ 57
theorem digs_byts {l : List Int} (h : digs l) : byts l := fun c hc => by have := h c hc; omega
theorem digs_append {l m : List Int} (h : digs l) (k : digs m) : digs (l ++ m) := fun c hc => by
  rcases List.mem_append.mp hc with hc | hc
  · exact h c hc
  · exact k c hc
theorem digs_one {c : Int} (h : 48 ≤ c ∧ c ≤ 57) : digs [c] := fun x hx => by simp at hx; subst hx; exact h
theorem digs_take {l : List Int} (h : digs l) (n : Nat) : digs (l.take n) := fun c hc => h c (List.mem_of_mem_take hc)
theorem digs_drop {l : List Int} (h : digs l) (n : Nat) : digs (l.drop n) := fun c hc => h c (List.mem_of_mem_drop hc)
def sN : List Int → Int
  | [] => 0
  | c :: l => (c - 48) + sN l
theorem sN_append (l m : List Int) : sN (l ++ m) = sN l + sN m := by
  induction l with
  | nil => simp [sN]
  | cons c l ih => simp [sN, ih]; omega
theorem sN_range (l : List Int) (h : digs l) : 0 ≤ sN l ∧ sN l ≤ 9 * l.length := by
  induction l with
  | nil => simp [sN]
  | cons c l ih =>
    have h1 := h c (by simp)
    have h2 := ih (fun x hx => h x (by simp [hx]))
    simp [sN]; omega

theorem rd_get (l : List Int) (i : Nat) (h : i < l.length) : rd l (i : Int) = l[i] := by simp [rd, h]
def digOk (q : List Int) : Bool := decide (1 ≤ q.length) && decide (q.length ≤ 7) && allFrom (strOfNums q) q.length 0
theorem spec_dig_l0 (s : ByteArray) (hn : s.size ≤ 1048576) : ∀ (d i k : Nat), i + d = s.size → d < k → spec_sgDigits.l0 k s i = some (allFrom s d i)
  | 0, i, k, h, hk => by
    obtain ⟨k, rfl⟩ : ∃ m, k = m + 1 := ⟨k - 1, by omega⟩
    simp only [spec_sgDigits.l0, allFrom]
    rw [if_neg (by omega)]
  | d + 1, i, k, h, hk => by
    obtain ⟨k, rfl⟩ : ∃ m, k = m + 1 := ⟨k - 1, by omega⟩
    simp only [spec_sgDigits.l0, allFrom]
    rw [if_pos (by omega), if_pos (by omega)]
    by_cases c1 : bt s i < 48
    · rw [if_pos c1, if_pos c1]
    · rw [if_neg c1, if_neg c1]
      by_cases c2 : bt s i > 57
      · rw [if_pos c2, if_pos c2]
      · rw [if_neg c2, if_neg c2, wrap_id (by omega) (by omega)]
        exact spec_dig_l0 s hn d (i + 1) k (by omega) (by omega)
theorem spec_dig (q : List Int) (hq : q.length ≤ 1048576) (k : Nat) (hk : q.length < k) : spec_sgDigits.f k (strOfNums q) = some (digOk q) := by
  unfold spec_sgDigits.f spec_l1In.f digOk
  rw [son_size]
  by_cases h1 : (q.length : Int) ≥ 1
  · rw [if_pos h1]; simp only [Option.bind_some]
    have a1 : 1 ≤ q.length := by omega
    by_cases h2 : (q.length : Int) ≤ 7
    · have a2 : q.length ≤ 7 := by omega
      rw [if_pos (by simpa using h2)]
      have := spec_dig_l0 (strOfNums q) (by rw [son_size]; exact hq) q.length 0 k (by rw [son_size]; omega) hk
      rw [show ((0 : Nat) : Int) = 0 from rfl] at this
      rw [this]
      simp [a1, a2]
    · have a2 : ¬ q.length ≤ 7 := by omega
      rw [if_neg (by simpa using h2)]
      simp [a2]
  · have a1 : ¬ 1 ≤ q.length := by omega
    rw [if_neg h1]; simp only [Option.bind_some]
    rw [if_neg (by simp)]
    simp [a1]
theorem impl_some (q : List Int) (hq : q.length ≤ 1048576) (k : Nat) (hk : q.length < k) : impl_areSome.f k (strOfNums q) = some (digOk q) := by
  unfold impl_areSome.f digOk
  rw [impl_digits _ 1 7 (by rw [son_size]; exact hq) k (by rw [son_size]; exact hk), son_size]
  simp only [Option.bind_some]
  congr 1
  rw [Bool.and_comm]
  congr 1
  congr 1
  · rw [Bool.eq_iff_iff, decide_eq_true_eq, decide_eq_true_eq]; omega
  · rw [Bool.eq_iff_iff, decide_eq_true_eq, decide_eq_true_eq]; omega
theorem as_list (s : ByteArray) : ∃ l : List Int, byts l ∧ s = strOfNums l ∧ l.length = s.size := ⟨bytesOf s, bytesOf_byts s, (son_bytesOf s).symm, bytesOf_length s⟩


theorem wrap_mul (x y : Int) : wrap64 (wrap64 x * y) = wrap64 (x * y) := by
  have e : ∀ (m c : Int), (((x + c) % m - c) * y + c) % m = (x * y + c) % m := fun m c => by
    have h1 : ((x + c) % m - c) * y + c = (x * y + c) + m * (-((x + c) / m) * y) := by
      rw [Int.emod_def]
      generalize (x + c) / m = q
      have h2 : x + c - m * q - c = x - m * q := by generalize m * q = z; omega
      rw [h2, Int.sub_mul, Int.neg_mul, Int.mul_neg, Int.mul_assoc]
      generalize m * (q * y) = z
      generalize x * y = u
      omega
    rw [h1, Int.add_mul_emod_self_left]
  unfold wrap64
  rw [e]
theorem wrap_mul_r (x y : Int) : wrap64 (x * wrap64 y) = wrap64 (x * y) := by
  rw [Int.mul_comm, wrap_mul, Int.mul_comm]
theorem dig_wrap (x : Int) : wrap64 (wrap64 (10 * 0) + (x - 48) % 256) = (x - 48) % 256 := by
  rw [wrap_add, Int.mul_zero, Int.zero_add, wrap_id (by omega) (by omega)]
def sgA (p : Bool) : List Int := if p = true then [43, 45, 0] else [42, 43, 45, 0]
def sgD (p : Bool) : Nat → List (List Int)
  | 0 => [[]]
  | d + 1 => (sgA p).flatMap fun s => (sgD p d).map fun g => s :: g
theorem sgD_end (p : Bool) : ∀ d, sgD p (d + 1) = (sgD p d).flatMap fun g => (sgA p).map fun s => g ++ [s]
  | 0 => by
    simp only [sgD, List.map_cons, List.map_nil, List.flatMap_cons, List.flatMap_nil, List.append_nil, List.nil_append]
    induction sgA p with
    | nil => rfl
    | cons a l ih => rw [List.flatMap_cons, List.map_cons, ih]; rfl
  | d + 1 => by
    have e1 : sgD p (d + 1 + 1) = (sgA p).flatMap fun s => (sgD p (d + 1)).map fun g => s :: g := rfl
    have e2 : sgD p (d + 1) = (sgA p).flatMap fun s => (sgD p d).map fun g => s :: g := rfl
    rw [e1, sgD_end p d]
    conv => rhs; rw [← sgD_end p d, e2, List.flatMap_assoc]
    congr 1
    funext s
    rw [List.map_flatMap, List.flatMap_map]
    congr 1
    funext g
    rw [List.map_map]
    rfl
theorem sgD_len (p : Bool) : ∀ d g, g ∈ sgD p d → g.length = d
  | 0, g, h => by simp [sgD] at h; simp [h]
  | d + 1, g, h => by
    simp only [sgD, List.mem_flatMap, List.mem_map] at h
    obtain ⟨s, _, g', h1, rfl⟩ := h
    rw [List.length_cons, sgD_len p d g' h1]
theorem sgA_len (p : Bool) : (sgA p).length ≤ 4 := by cases p <;> simp [sgA]
theorem flat_len {α β : Type} (f : α → List β) (n : Nat) : ∀ l : List α, (∀ a ∈ l, (f a).length ≤ n) → (l.flatMap f).length ≤ n * l.length
  | [], _ => by simp
  | a :: l, h => by
    rw [List.flatMap_cons, List.length_append, List.length_cons, Nat.mul_succ]
    have := h a (List.mem_cons_self ..)
    have := flat_len f n l (fun b hb => h b (List.mem_cons_of_mem _ hb))
    omega
theorem sgD_many (p : Bool) : ∀ d, (sgD p d).length ≤ 4 ^ d
  | 0 => by simp [sgD]
  | d + 1 => by
    have h1 := flat_len (fun g : List Int => (sgA p).map fun s => g ++ [s]) 4 (sgD p d) (fun g _ => by simpa using sgA_len p)
    have h2 := sgD_many p d
    rw [sgD_end, Nat.pow_succ]
    omega
theorem sgD_most (p : Bool) {d : Nat} (h : d ≤ 6) : (sgD p d).length ≤ 4096 :=
  Nat.le_trans (sgD_many p d) (Nat.le_trans (Nat.pow_le_pow_right (by decide) h) (by decide))
theorem sgA_sgn {p : Bool} {s : Int} (h : s ∈ sgA p) : s = 42 ∨ s = 43 ∨ s = 45 ∨ s = 0 := by
  cases p <;> simp [sgA] at h <;> omega
theorem sgD_sgn (p : Bool) : ∀ d g, g ∈ sgD p d → ∀ s ∈ g, s = 42 ∨ s = 43 ∨ s = 45 ∨ s = 0
  | 0, g, h => by simp [sgD] at h; simp [h]
  | d + 1, g, h => by
    simp only [sgD, List.mem_flatMap, List.mem_map] at h
    obtain ⟨s, hs, g', h1, rfl⟩ := h
    intro t ht
    rcases List.mem_cons.mp ht with rfl | ht
    · exact sgA_sgn hs
    · exact sgD_sgn p d g' h1 t ht
def txL : List Int → List Int → List Int
  | s :: g, x :: xs => (if s = 0 then [x] else [s, x]) ++ txL g xs
  | _, _ => []
def txt (l g : List Int) : List Int := l.take 1 ++ txL g (l.drop 1)
theorem txL_end (s : Int) : ∀ (g xs : List Int) (h : g.length < xs.length), txL (g ++ [s]) xs = txL g xs ++ (if s = 0 then [xs[g.length]] else [s, xs[g.length]])
  | [], x :: xs, h => by simp [txL]
  | a :: g, x :: xs, h => by
    have h' : g.length < xs.length := by simpa using h
    rw [List.cons_append, txL, txL, txL_end s g xs h', List.append_assoc]
    rfl
  | [], [], h => by simp at h
  | a :: g, [], h => by simp at h
theorem txL_len : ∀ g xs : List Int, (txL g xs).length ≤ 2 * g.length
  | [], xs => by simp [txL]
  | a :: g, [] => by simp [txL]
  | a :: g, x :: xs => by
    have := txL_len g xs
    rw [txL, List.length_append, List.length_cons]
    split <;> simp <;> omega
theorem txt_len (l g : List Int) : (txt l g).length ≤ 2 * g.length + 1 := by
  have := txL_len g (l.drop 1)
  rw [txt, List.length_append, List.length_take]
  omega
theorem txt_end (s : Int) (l g : List Int) (h : g.length + 1 < l.length) : txt l (g ++ [s]) = txt l g ++ (if s = 0 then [l[g.length + 1]] else [s, l[g.length + 1]]) := by
  rw [txt, txt, txL_end s g _ (by simp; omega), List.append_assoc]
  congr 2
  simp [Nat.add_comm]
theorem txL_byts {g xs : List Int} (hg : ∀ s ∈ g, s = 42 ∨ s = 43 ∨ s = 45 ∨ s = 0) (hx : byts xs) : byts (txL g xs) := by
  induction g generalizing xs with
  | nil => intro c hc; simp [txL] at hc
  | cons a g ih =>
    cases xs with
    | nil => intro c hc; simp [txL] at hc
    | cons x xs =>
      intro c hc
      rw [txL, List.mem_append] at hc
      rcases hc with hc | hc
      · have h1 := hg a (List.mem_cons_self ..)
        have h2 := hx x (List.mem_cons_self ..)
        split at hc
        · simp at hc; subst hc; exact h2
        · simp at hc; rcases hc with rfl | rfl
          · omega
          · exact h2
      · exact ih (fun s hs => hg s (List.mem_cons_of_mem _ hs)) (fun c hc => hx c (List.mem_cons_of_mem _ hc)) c hc
theorem txt_byts {l g : List Int} (hg : ∀ s ∈ g, s = 42 ∨ s = 43 ∨ s = 45 ∨ s = 0) (hl : byts l) : byts (txt l g) := by
  intro c hc
  rw [txt, List.mem_append] at hc
  rcases hc with hc | hc
  · exact hl c (List.mem_of_mem_take hc)
  · exact txL_byts hg (fun c hc => hl c (List.mem_of_mem_drop hc)) c hc
def vL : List Int → Int → Int → Int → Int → Int
  | [], S, s, p, n => wrap64 (S + wrap64 (wrap64 (s * p) * n))
  | c :: r, S, s, p, n => if c = 42 then vL r S s (wrap64 (p * n)) 0 else if c = 43 then vL r (wrap64 (S + wrap64 (wrap64 (s * p) * n))) 1 1 0 else if c = 45 then vL r (wrap64 (S + wrap64 (wrap64 (s * p) * n))) (-1) 1 0 else vL r S s p (wrap64 (wrap64 (10 * n) + (c - 48) % 256))
theorem spec_value_l0 (l : List Int) (hb : byts l) (hl : l.length ≤ 100) : ∀ (d i k : Nat) (S s p n : Int), i + d = l.length → 2 * d < k → spec_sgValue.l0 k (strOfNums l) S s p n i = some (vL (l.drop i) S s p n)
  | 0, i, k, S, s, p, n, e, hk => by
    obtain ⟨k, rfl⟩ : ∃ j, k = j + 1 := ⟨k - 1, by omega⟩
    rw [spec_sgValue.l0, son_size, if_neg (show ¬ (i : Int) < (l.length : Int) by omega), List.drop_of_length_le (by omega), vL]
  | d + 1, i, k, S, s, p, n, e, hk => by
    obtain ⟨k, rfl⟩ : ∃ j, k = j + 2 := ⟨k - 2, by omega⟩
    have hi : i < l.length := by omega
    have w1 : wrap64 ((i : Int) + 1) = ((i + 1 : Nat) : Int) := by rw [wrap_id (by omega) (by omega)]; omega
    have p1 : (i : Int) < (l.length : Int) := by omega
    have p2 : (0 : Int) ≤ (i : Int) := by omega
    rw [spec_sgValue.l0, son_size, if_pos p1, if_pos p2, son_bt l hb i hi, w1, List.drop_eq_getElem_cons hi, vL]
    by_cases c1 : l[i] = 42
    · rw [if_pos c1, if_pos c1]
      exact spec_value_l0 l hb hl d (i + 1) _ _ _ _ _ (by omega) (by omega)
    · rw [if_neg c1, if_neg c1]
      by_cases c2 : l[i] = 43
      · rw [if_pos c2, if_pos c2, spec_sgValue.j1, if_pos (beq_iff_eq.2 c2), if_pos p2, son_size, if_pos p1, son_bt l hb i hi, if_neg (show ¬ l[i] = 45 by omega), w1]
        exact spec_value_l0 l hb hl d (i + 1) _ _ _ _ _ (by omega) (by omega)
      · rw [if_neg c2, if_neg c2, spec_sgValue.j1, son_size, son_bt l hb i hi]
        by_cases c3 : l[i] = 45
        · rw [if_pos (beq_iff_eq.2 c3), if_pos p2, if_pos p1, if_pos c3, if_pos c3, w1]
          exact spec_value_l0 l hb hl d (i + 1) _ _ _ _ _ (by omega) (by omega)
        · rw [if_neg (fun q => c3 (beq_iff_eq.1 q)), if_pos p2, if_pos p1, if_neg c3, w1]
          exact spec_value_l0 l hb hl d (i + 1) _ _ _ _ _ (by omega) (by omega)
def runL : List Int → List Int → Int × Int × Int → Int × Int × Int
  | s :: g, x :: xs, r => runL g xs (onT r s x)
  | _, _, r => r
def valL (l g : List Int) : Int := valT (runL g (l.drop 1) (0, 1, (rd l 0 - 48) % 256))
theorem vL_dig {x : Int} (h : 48 ≤ x ∧ x ≤ 57) (r : List Int) (S s p n : Int) : vL (x :: r) S s p n = vL r S s p (wrap64 (wrap64 (10 * n) + (x - 48) % 256)) := by
  rw [vL, if_neg (by omega), if_neg (by omega), if_neg (by omega)]
theorem vL_run : ∀ (g xs : List Int) (S s p n : Int), (∀ s ∈ g, s = 42 ∨ s = 43 ∨ s = 45 ∨ s = 0) → digs xs → vL (txL g xs) S s p n = valT (runL g xs (S, wrap64 (s * p), n))
  | [], xs, S, s, p, n, _, _ => by simp only [txL, runL]; rw [vL]; rfl
  | a :: g, [], S, s, p, n, _, _ => by simp only [txL, runL]; rw [vL]; rfl
  | a :: g, x :: xs, S, s, p, n, hg, hx => by
    have hx0 := hx x (List.mem_cons_self ..)
    have IH := fun S s p n => vL_run g xs S s p n (fun s hs => hg s (List.mem_cons_of_mem _ hs)) (fun c hc => hx c (List.mem_cons_of_mem _ hc))
    rw [txL, runL]
    rcases hg a (List.mem_cons_self ..) with rfl | rfl | rfl | rfl
    · rw [if_neg (by omega), List.cons_append, List.cons_append, List.nil_append, vL, if_pos rfl, vL_dig hx0, dig_wrap, IH, onT, if_pos rfl, wrap_mul_r, wrap_mul, Int.mul_assoc]
    · rw [if_neg (by omega), List.cons_append, List.cons_append, List.nil_append, vL, if_neg (by omega), if_pos rfl, vL_dig hx0, dig_wrap, IH, onT, if_neg (by omega), if_pos rfl, show (1 : Int) * 1 = 1 from rfl, wrap_id (x := 1) (by omega) (by omega)]
    · rw [if_neg (by omega), List.cons_append, List.cons_append, List.nil_append, vL, if_neg (by omega), if_neg (by omega), if_pos rfl, vL_dig hx0, dig_wrap, IH, onT, if_neg (by omega), if_neg (by omega), if_pos rfl, show (-1 : Int) * 1 = -1 from rfl, wrap_id (x := -1) (by omega) (by omega)]
    · rw [if_pos rfl, List.cons_append, List.nil_append, vL_dig hx0, IH, onT, if_neg (by omega), if_neg (by omega), if_neg (by omega)]
theorem spec_value (l : List Int) (hl : digs l) (h1 : 1 ≤ l.length) (h7 : l.length ≤ 7) (g : List Int) (hg : ∀ s ∈ g, s = 42 ∨ s = 43 ∨ s = 45 ∨ s = 0) (hn : g.length ≤ 6) (k : Nat) (hk : 30 < k) : spec_sgValue.f k (strOfNums (txt l g)) = some (valL l g) := by
  have hlen := txt_len l g
  unfold spec_sgValue.f
  rw [show (0 : Int) = ((0 : Nat) : Int) from rfl, spec_value_l0 _ (txt_byts hg (digs_byts hl)) (by omega) (txt l g).length 0 k _ _ _ _ (by omega) (by omega), List.drop_zero]
  cases l with
  | nil => simp at h1
  | cons x xs =>
    have hx0 := hl x (List.mem_cons_self ..)
    have e : txt (x :: xs) g = x :: txL g xs := by simp [txt]
    rw [e, show ((0 : Nat) : Int) = 0 from rfl, vL_dig hx0, dig_wrap, vL_run g xs _ _ _ _ hg (fun c hc => hl c (List.mem_cons_of_mem _ hc)), Int.mul_one, wrap_id (by omega) (by omega)]
    rfl
theorem all_l1 (l : List Int) (hl : digs l) (h7 : l.length ≤ 7) (p : Bool) (gs : List (List Int)) (i : Nat) (hi : i < l.length) (hg : ∀ g ∈ gs, g.length + 1 = i) (hn : gs.length ≤ 4096) : ∀ (d j m : Nat) (acc : List ByteArray), j + d = gs.length → acc.length ≤ 4 * j →
    spec_sgAll.l1 (d + 1 + m) (strOfNums l) p i acc (gs.map fun g => strOfNums (txt l g)) (gs.length : Int) j = spec_sgAll.l0 (m) (strOfNums l) p (acc ++ (gs.drop j).flatMap fun g => (sgA p).map fun s => strOfNums (txt l (g ++ [s]))) ((i + 1 : Nat) : Int)
  | 0, j, m, acc, e, ha => by
    have w1 : wrap64 ((i : Int) + 1) = ((i + 1 : Nat) : Int) := by rw [wrap_id (by omega) (by omega)]; omega
    rw [show 0 + 1 + m = m + 1 by omega, spec_sgAll.l1, if_neg (show ¬ (j : Int) < (gs.length : Int) by omega), w1, List.drop_of_length_le (by omega), List.flatMap_nil, List.append_nil]
  | d + 1, j, m, acc, e, ha => by
    have w1 : wrap64 ((i : Int) + 1) = ((i + 1 : Nat) : Int) := by rw [wrap_id (by omega) (by omega)]; omega
    have w2 : wrap64 ((j : Int) + 1) = ((j + 1 : Nat) : Int) := by rw [wrap_id (by omega) (by omega)]; omega
    have hj : j < gs.length := by omega
    have hr : rdOf ByteArray.empty (gs.map fun g => strOfNums (txt l g)) (j : Int) = strOfNums (txt l gs[j]) := by
      simp [rdOf, hj]
    have hgl := hg gs[j] (List.getElem_mem hj)
    have htl := txt_len l gs[j]
    have he : (strOfNums l).extract ((i : Int)).toNat (((i + 1 : Nat) : Int)).toNat = strOfNums [l[i]] := by
      rw [son_extract, Int.toNat_natCast, Int.toNat_natCast, List.take_succ_eq_append_getElem hi, List.drop_append_of_le_length (by simp; omega)]
      congr 1
      simp
    have IH := fun acc => all_l1 l hl h7 p gs i hi hg hn d (j + 1) m acc (by omega)
    have hs : ∀ s : Int, s ≠ 0 → strOfNums (txt l (gs[j] ++ [s])) = strOfNums (txt l gs[j] ++ [s] ++ [l[i]]) := fun s h0 => by
      rw [txt_end s l gs[j] (by omega), if_neg h0, List.append_assoc]
      simp [hgl]
    have hs0 : strOfNums (txt l (gs[j] ++ [0])) = strOfNums (txt l gs[j] ++ [l[i]]) := by
      rw [txt_end 0 l gs[j] (by omega), if_pos rfl]
      simp [hgl]
    have q1 : (j : Int) < (gs.length : Int) := by omega
    have q2 : (0 : Int) ≤ (j : Int) := by omega
    have q3 : (0 : Int) ≤ (i : Int) := by omega
    have q4 : (i : Int) ≤ ((i + 1 : Nat) : Int) := by omega
    have q5 : ((i + 1 : Nat) : Int) ≤ (l.length : Int) := by omega
    have z1 : (txt l gs[j]).length + 1 ≤ 9223372036854775807 := by omega
    have z2 : ∀ s : Int, (txt l gs[j] ++ [s]).length + [l[i]].length ≤ 9223372036854775807 := fun s => by simp; omega
    have z3 : (txt l gs[j]).length + [l[i]].length ≤ 9223372036854775807 := by simp; omega
    rw [show d + 1 + 1 + m = (d + 1 + m) + 1 by omega, spec_sgAll.l1, hr, w1, w2, he, if_pos q1, if_pos q2, List.length_map, if_pos q1,
      show (⟨#[42]⟩ : ByteArray) = strOfNums [42] from rfl, show (⟨#[43]⟩ : ByteArray) = strOfNums [43] from rfl, show (⟨#[45]⟩ : ByteArray) = strOfNums [45] from rfl]
    simp only [son_append]
    simp only [son_size]
    rw [List.drop_eq_getElem_cons hj, List.flatMap_cons, ← List.append_assoc]
    cases p with
    | true =>
      rw [if_pos rfl, if_pos z1, if_pos q3, if_pos q4, if_pos q5, if_pos (z2 43), if_pos (z2 45), if_pos z3, Option.bind_some, if_pos (by simp; omega), IH _ (by simp; omega)]
      simp only [sgA, if_true, List.map_cons, List.map_nil, hs0]
      rw [hs 43 (by decide), hs 45 (by decide)]
    | false =>
      rw [if_neg (by simp), if_pos z1, if_pos q3, if_pos q4, if_pos q5, if_pos (z2 42), if_pos (by omega), Option.bind_some, if_pos (z2 43), if_pos (z2 45), if_pos z3, Option.bind_some, if_pos (by simp; omega), IH _ (by simp; omega)]
      simp only [sgA, Bool.false_eq_true, if_false, List.map_cons, List.map_nil, hs0]
      rw [hs 42 (by decide), hs 43 (by decide), hs 45 (by decide), List.append_assoc acc]
      rfl
theorem all_l0 (l : List Int) (hl : digs l) (h7 : l.length ≤ 7) (p : Bool) : ∀ (d i k : Nat), 1 ≤ i → i + d = l.length → 5000 * d < k →
    spec_sgAll.l0 k (strOfNums l) p ((sgD p (i - 1)).map fun g => strOfNums (txt l g)) i = some ((sgD p (l.length - 1)).map fun g => strOfNums (txt l g))
  | 0, i, k, h1, e, hk => by
    obtain ⟨k, rfl⟩ : ∃ j, k = j + 1 := ⟨k - 1, by omega⟩
    rw [spec_sgAll.l0, son_size, if_neg (show ¬ (i : Int) < (l.length : Int) by omega), show i - 1 = l.length - 1 by omega]
  | d + 1, i, k, h1, e, hk => by
    have hm := sgD_most p (d := i - 1) (by omega)
    obtain ⟨k, rfl⟩ : ∃ j, k = (sgD p (i - 1)).length + 1 + j + 1 := ⟨k - 2 - (sgD p (i - 1)).length, by omega⟩
    rw [spec_sgAll.l0, son_size, if_pos (show (i : Int) < (l.length : Int) by omega), List.length_map]
    have := all_l1 l hl h7 p (sgD p (i - 1)) i (by omega) (fun g hg => by rw [sgD_len p _ g hg]; omega) hm (sgD p (i - 1)).length 0 k [] (by omega) (by simp)
    rw [show ((0 : Nat) : Int) = 0 from rfl] at this
    rw [this, List.drop_zero, List.nil_append]
    have e2 : ((sgD p (i - 1)).flatMap fun g => (sgA p).map fun s => strOfNums (txt l (g ++ [s]))) = (sgD p (i + 1 - 1)).map fun g => strOfNums (txt l g) := by
      rw [show i + 1 - 1 = i - 1 + 1 by omega, sgD_end, List.map_flatMap]
      congr 1
      funext g
      rw [List.map_map]
      rfl
    rw [e2]
    exact all_l0 l hl h7 p d (i + 1) k (by omega) (by omega) (by omega)
theorem spec_all (l : List Int) (hl : digs l) (h1 : 1 ≤ l.length) (h7 : l.length ≤ 7) (p : Bool) (k : Nat) (hk : 40000 < k) : spec_sgAll.f k (strOfNums l) p = some ((sgD p (l.length - 1)).map fun g => strOfNums (txt l g)) := by
  unfold spec_sgAll.f
  have := all_l0 l hl h7 p (l.length - 1) 1 k (by omega) (by omega) (by omega)
  rw [if_pos (by omega), son_size, if_pos (by omega), ← this, son_extract]
  congr 1
  simp [sgD, txt, txL]
def mdL (p : Bool) (l : List Int) (x : Int) : List (List Int) := (sgD p (l.length - 1)).filter fun g => valL l g == x
theorem rounds_fold {σ : Type} (g : Int → σ → σ × Bool) (G : σ → Int → σ) (h : ∀ s st, g s st = (G st s, true)) : ∀ (L : List Int) (st : σ), roundsT g L st = (L.foldl G st, true)
  | [], st => rfl
  | s :: L, st => by
    simp only [roundsT, h, if_true, List.foldl_cons]
    exact rounds_fold g G h L _
theorem foldl_flat_ {α β σ : Type} (f : σ → β → σ) (h : α → List β) : ∀ (L : List α) (st : σ), (L.flatMap h).foldl f st = L.foldl (fun st a => (h a).foldl f st) st
  | [], st => rfl
  | a :: L, st => by rw [List.flatMap_cons, List.foldl_append, List.foldl_cons, foldl_flat_ f h L]
theorem dfs_fold {σ : Type} (f : σ → List Int → Int → σ × Bool) (F : σ → List Int → Int → σ) (hf : ∀ st sg v, f st sg v = (F st sg v, true)) (l : List Int) (hb : byts l) : ∀ (d i : Nat) (pre : List Int) (r : Int × Int × Int) (st : σ), i + d = l.length →
    dfsT f (strOfNums l) d i pre r st = ((sgD false d).foldl (fun st g => F st (pre ++ g) (valT (runL g (l.drop i) r))) st, true)
  | 0, i, pre, r, st, e => by
    rw [dfsT, hf, List.drop_of_length_le (by omega)]
    simp [sgD, runL]
  | d + 1, i, pre, r, st, e => by
    have hi : i < l.length := by omega
    rw [dfsT, rounds_fold _ (fun st s => (sgD false d).foldl (fun st g => F st (pre ++ [s] ++ g) (valT (runL g (l.drop (i + 1)) (onT r s (bt (strOfNums l) i))))) st) (fun s st => dfs_fold f F hf l hb d (i + 1) (pre ++ [s]) _ st (by omega))]
    congr 1
    rw [show sgD false (d + 1) = [42, 43, 45, 0].flatMap fun s => (sgD false d).map fun g => s :: g from rfl, foldl_flat_]
    congr 1
    funext st s
    rw [List.foldl_map, List.drop_eq_getElem_cons hi, son_bt l hb i hi]
    congr 1
    funext st g
    rw [runL, List.append_assoc]
    rfl
theorem mdL_most (p : Bool) (l : List Int) (h7 : l.length ≤ 7) (x : Int) : (mdL p l x).length ≤ 4096 := Nat.le_trans (List.length_filter_le _ _) (sgD_most p (by omega))
theorem all_digs (l : List Int) (hb : byts l) (h : allFrom (strOfNums l) l.length 0 = true) : digs l := by
  intro c hc
  obtain ⟨j, hj, rfl⟩ := List.getElem_of_mem hc
  have := allFrom_bt (strOfNums l) l.length 0 h j (Nat.zero_le _) (by omega)
  rw [son_bt l hb j hj] at this
  exact this
theorem as_digs (l : List Int) (hb : byts l) (h : digOk l = true) : digs l ∧ 1 ≤ l.length ∧ l.length ≤ 7 := by
  simp only [digOk, Bool.and_eq_true, decide_eq_true_eq] at h
  exact ⟨all_digs l hb h.2, h.1.1, h.1.2⟩
def askB (l : List Int) (x : Int) : Bool := digOk l && (decide (-100000000 ≤ x) && decide (x ≤ 100000000))
theorem noMul_cons (s : Int) (g : List Int) : noMul (s :: g) = (!(s == 42) && noMul g) := rfl
theorem sgD_plain : ∀ d, sgD true d = (sgD false d).filter noMul
  | 0 => rfl
  | d + 1 => by
    have e1 : sgD true (d + 1) = [43, 45, 0].flatMap fun s => (sgD true d).map fun g => s :: g := rfl
    have e2 : sgD false (d + 1) = [42, 43, 45, 0].flatMap fun s => (sgD false d).map fun g => s :: g := rfl
    have f : ∀ s : Int, s ≠ 42 → (noMul ∘ fun g => s :: g) = noMul := fun s hs => by
      funext g
      have hb : (s == (42 : Int)) = false := beq_eq_false_iff_ne.2 hs
      show noMul (s :: g) = noMul g
      rw [noMul_cons, hb]
      rfl
    have f42 : (noMul ∘ fun g => (42 : Int) :: g) = fun _ => false := by
      funext g
      rfl
    rw [e1, e2, sgD_plain d]
    simp only [List.flatMap_cons, List.flatMap_nil, List.append_nil, List.filter_append, List.filter_map]
    rw [f 43 (by decide), f 45 (by decide), f 0 (by decide), f42]
    simp
theorem isKey_int (v : Int) : WideAt.IsKeyLit (.int .i64 v) := by trivial
theorem cntD_same {D : DataW Unit} (hD : Maps.IsMap D) (v : Int) : cntD (putD D v) v = wrap64 (cntD D v + 1) := cntD_of (Maps.atKey_put_same hD (isKey_int v) _ _)
theorem cntD_other {D : DataW Unit} {v y : Int} (h : y ≠ v) : cntD (putD D v) y = cntD D y := by
  unfold putD
  have e : (D.put (.int .i64 v) (.lit (.int .i64 (wrap64 (cntD D v + 1))))).atKey (.int .i64 y) (.lit (.int .i64 0)) = D.atKey (.int .i64 y) (.lit (.int .i64 0)) := Maps.atKey_put_other (by intro q; exact h (by injection q)) _ _
  show (match (D.put (.int .i64 v) (.lit (.int .i64 (wrap64 (cntD D v + 1))))).atKey (.int .i64 y) (.lit (.int .i64 0)) with | .lit (.int _ c) => c | _ => 0) = cntD D y
  rw [e]
  rfl
theorem isMap_foldl : ∀ (L : List Int) (D : DataW Unit), Maps.IsMap D → Maps.IsMap (L.foldl putD D)
  | [], _, h => h
  | v :: L, D, h => isMap_foldl L _ (Maps.IsMap.put h _ _)
theorem cnt_foldl (x : Int) : ∀ (L : List Int) (D : DataW Unit), Maps.IsMap D → (∀ y, 0 ≤ cntD D y ∧ cntD D y + L.length < 1000000) → cntD (L.foldl putD D) x = cntD D x + ((L.filter fun y => y == x).length : Int)
  | [], D, _, _ => by simp
  | v :: L, D, hD, h => by
    have hs := cntD_same hD v
    have hv := h v
    simp only [List.length_cons] at h hv
    rw [wrap_id (by omega) (by omega)] at hs
    rw [List.foldl_cons, cnt_foldl x L (putD D v) (Maps.IsMap.put hD _ _) (fun y => by
      have hy := h y
      by_cases c : y = v
      · rw [c, hs]; omega
      · rw [cntD_other c]; omega), List.filter_cons]
    by_cases c : v = x
    · subst c
      rw [hs, if_pos (beq_self_eq_true v), List.length_cons]
      omega
    · have hb : (v == x) = false := beq_eq_false_iff_ne.2 c
      rw [cntD_other (fun q => c q.symm), hb]
      simp
theorem cntD_empty (y : Int) : cntD (.map []) y = 0 := rfl
theorem cntD_mapOf (L : List Int) (hL : L.length < 900000) (x : Int) : cntD (mapOf L) x = ((L.filter fun y => y == x).length : Int) := by
  unfold mapOf
  rw [cnt_foldl x L _ Maps.isMap_empty (fun y => by rw [cntD_empty]; omega), cntD_empty, Int.zero_add]
theorem num_fold (l : List Int) (p : Bool) : ∀ (L : List (List Int)) (a : List Int), L.foldl (fun st g => if (!p || noMul g) = true then st ++ [valL l g] else st) a = a ++ ((L.filter fun g => !p || noMul g).map (valL l))
  | [], a => by simp
  | g :: L, a => by
    rw [List.foldl_cons, List.filter_cons, num_fold l p L]
    by_cases c : (!p || noMul g) = true
    · rw [if_pos c, if_pos c, List.map_cons, List.append_assoc]
      rfl
    · rw [if_neg c, if_neg c]
theorem numT_eq (l : List Int) (hl : digs l) (h1 : 1 ≤ l.length) (p : Bool) : numT (strOfNums l) p = (sgD p (l.length - 1)).map (valL l) := by
  have e : startT (strOfNums l) = (0, 1, (rd l 0 - 48) % 256) := by
    have := son_bt l (digs_byts hl) 0 h1
    rw [show ((0 : Nat) : Int) = 0 from rfl] at this
    rw [startT, this, show (0 : Int) = ((0 : Nat) : Int) from rfl, rd_get l 0 h1]
  rw [numT, son_size, dfs_fold (numF p) (fun st sg v => if (!p || noMul sg) = true then st ++ [v] else st) (fun _ _ _ => rfl) l (digs_byts hl) (l.length - 1) 1 [] _ _ (by omega), e]
  have h := num_fold l p (sgD false (l.length - 1)) []
  have e2 : ((sgD false (l.length - 1)).filter fun g => !p || noMul g) = sgD p (l.length - 1) := by
    cases p with
    | true => rw [sgD_plain]; congr 1
    | false => exact List.filter_eq_self.mpr (fun _ _ => rfl)
  rw [e2, List.nil_append] at h
  exact h
theorem numT_most (l : List Int) (hl : digs l) (h1 : 1 ≤ l.length) (h7 : l.length ≤ 7) (p : Bool) : (numT (strOfNums l) p).length ≤ 4096 := by
  rw [numT_eq l hl h1, List.length_map]
  exact sgD_most p (by omega)
theorem sgD_pos (p : Bool) : ∀ d, 0 < (sgD p d).length
  | 0 => by simp [sgD]
  | d + 1 => by
    have h := sgD_pos p d
    have e : sgD p (d + 1) = (sgA p).flatMap fun s => (sgD p d).map fun g => s :: g := rfl
    obtain ⟨a, A, ha⟩ : ∃ a A, sgA p = a :: A := by cases p <;> exact ⟨_, _, rfl⟩
    rw [e, ha, List.flatMap_cons, List.length_append, List.length_map]
    omega

def Ev {α : Type} (g : Nat → Option α) (v : α) : Prop := ∃ K, ∀ k, K ≤ k → g k = some v
theorem Ev.step {α : Type} {g g' : Nat → Option α} {v : α} (e : Ev g' v) (K0 : Nat) (h : ∀ k, K0 ≤ k → g (k + 1) = g' k) : Ev g v := by
  obtain ⟨K, hK⟩ := e
  refine ⟨K + K0 + 1, fun k hk => ?_⟩
  obtain ⟨k, rfl⟩ : ∃ j, k = j + 1 := ⟨k - 1, by omega⟩
  rw [h k (by omega)]
  exact hK k (by omega)
theorem Ev.const {α : Type} (v : α) : Ev (fun _ => some v) v := ⟨0, fun _ _ => rfl⟩
def leI (a b : Int) : Bool := decide (a ≤ b)
def mg (a b : List Int) : List Int := List.merge a b leI
theorem seg_cons (xs : List Int) (i m : Nat) (hi : i < m) (hm : m ≤ xs.length) : (xs.take m).drop i = (xs[i]'(by omega)) :: (xs.take m).drop (i + 1) := by
  rw [List.drop_eq_getElem_cons (by rw [List.length_take]; omega)]
  simp
theorem seg_nil (xs : List Int) (i m : Nat) (h : m ≤ i) : (xs.take m).drop i = [] := List.drop_of_length_le (by rw [List.length_take]; omega)
theorem wrap_succ (x : Nat) (h : x < 6000) : wrap64 ((x : Int) + 1) = ((x + 1 : Nat) : Int) := by rw [wrap_id (by omega) (by omega)]; omega
theorem ev_l3 (xs : List Int) (hx : xs.length ≤ 5000) (s fr m e : Nat) (hm : m ≤ e) (he : e ≤ xs.length) (v : List Int) : ∀ (d i k : Nat) (out : List Int), (m - i) + (e - k) = d → i ≤ m → m ≤ k → k ≤ e → out.length + d ≤ 6000 →
    Ev (fun q => spec_sgNumbers.l2 q xs s (out ++ mg ((xs.take m).drop i) ((xs.take e).drop k)) (wrap64 ((fr : Int) + wrap64 (2 * (s : Int))))) v → Ev (fun q => spec_sgNumbers.l3 q xs s out fr m e i k) v
  | 0, i, k, out, hd, h1, h2, h3, ho, ev => by
    have e1 : i = m := by omega
    have e2 : k = e := by omega
    subst e1 e2
    rw [seg_nil xs i i (Nat.le_refl _), seg_nil xs k k (Nat.le_refl _), mg, List.nil_merge, List.append_nil] at ev
    have hz : decide ((k : Int) < (k : Int)) = false := decide_eq_false (by omega)
    refine Ev.step (g' := fun q => spec_sgNumbers.j4 q xs s out fr i k i k false) (Ev.step ev 0 (fun q _ => ?_)) 0 (fun q _ => ?_)
    · rw [spec_sgNumbers.j4, if_neg (by simp)]
    · rw [spec_sgNumbers.l3, if_neg (show ¬ (i : Int) < (i : Int) by omega), hz]
  | d + 1, i, k, out, hd, h1, h2, h3, ho, ev => by
    have hke : ¬ i < m → k < e := fun h => by clear ho he hx; omega
    have hi6 : i < 6000 := by clear ho; omega
    have hk6 : k < 6000 := by clear ho; omega
    have oi : out.length < 17592186044416 := by clear hd h1 h2 h3 he hx hm; omega
    have step1 : Ev (fun q => spec_sgNumbers.j4 q xs s out fr m e i k true) v → Ev (fun q => spec_sgNumbers.l3 q xs s out fr m e i k) v := fun e1 => by
      refine Ev.step e1 0 (fun q _ => ?_)
      rw [spec_sgNumbers.l3]
      by_cases c : (i : Int) < (m : Int)
      · rw [if_pos c]
      · rw [if_neg c, show decide ((k : Int) < (e : Int)) = true from decide_eq_true (Int.ofNat_lt.mpr (hke (fun q => c (Int.ofNat_lt.mpr q))))]
    have takeI : ∀ hi : i < m, (mg ((xs.take m).drop i) ((xs.take e).drop k) = xs[i] :: mg ((xs.take m).drop (i + 1)) ((xs.take e).drop k)) → Ev (fun q => spec_sgNumbers.l3 q xs s (out ++ [rd xs i]) fr m e ((i + 1 : Nat) : Int) k) v := fun hi hmg => by
      refine ev_l3 xs hx s fr m e hm he v d (i + 1) k _ (by omega) (by omega) h2 h3 (by rw [List.length_append]; simp; omega) ?_
      rw [hmg] at ev
      rw [rd_get xs i (by omega), List.append_assoc]
      exact ev
    have takeK : ∀ hk : k < e, (mg ((xs.take m).drop i) ((xs.take e).drop k) = xs[k] :: mg ((xs.take m).drop i) ((xs.take e).drop (k + 1))) → Ev (fun q => spec_sgNumbers.l3 q xs s (out ++ [rd xs k]) fr m e i ((k + 1 : Nat) : Int)) v := fun hk hmg => by
      refine ev_l3 xs hx s fr m e hm he v d i (k + 1) _ (by omega) h1 (by omega) (by omega) (by rw [List.length_append]; simp; omega) ?_
      rw [hmg] at ev
      rw [rd_get xs k (by omega), List.append_assoc]
      exact ev
    have pi0 : (0 : Int) ≤ (i : Int) := by omega
    have pk0 : (0 : Int) ≤ (k : Int) := by omega
    by_cases ck : k = e
    · have hi : i < m := by omega
      have hmg : mg ((xs.take m).drop i) ((xs.take e).drop k) = xs[i] :: mg ((xs.take m).drop (i + 1)) ((xs.take e).drop k) := by
        rw [seg_nil xs k e (by omega), seg_cons xs i m hi (by omega), mg, mg, List.merge_right, List.merge_right]
      refine step1 (Ev.step (takeI hi hmg) 0 (fun q _ => ?_))
      rw [spec_sgNumbers.j4, if_pos rfl, if_pos (show (k : Int) = (e : Int) by omega), if_pos pi0, if_pos (show (i : Int) < (xs.length : Int) by omega), if_pos oi, wrap_succ i hi6]
    · have hk : k < e := by omega
      have nk : ¬ (k : Int) = (e : Int) := by omega
      have lk : (k : Int) < (xs.length : Int) := by omega
      by_cases ci : i < m
      · have li : (i : Int) < (xs.length : Int) := by omega
        by_cases cl : rd xs i ≤ rd xs k
        · have hmg : mg ((xs.take m).drop i) ((xs.take e).drop k) = xs[i] :: mg ((xs.take m).drop (i + 1)) ((xs.take e).drop k) := by
            rw [rd_get xs i (by omega), rd_get xs k (by omega)] at cl
            rw [seg_cons xs i m ci (by omega), seg_cons xs k e hk he, mg, mg, List.cons_merge_cons, if_pos (show leI xs[i] xs[k] = true from decide_eq_true cl)]
          refine step1 (Ev.step (takeI ci hmg) 0 (fun q _ => ?_))
          rw [spec_sgNumbers.j4, if_pos rfl, if_neg nk, if_pos (show (i : Int) < (m : Int) by omega), if_pos pi0, if_pos li, if_pos pk0, if_pos lk, if_pos cl, if_pos oi, wrap_succ i hi6]
        · have hmg : mg ((xs.take m).drop i) ((xs.take e).drop k) = xs[k] :: mg ((xs.take m).drop i) ((xs.take e).drop (k + 1)) := by
            rw [rd_get xs i (by omega), rd_get xs k (by omega)] at cl
            rw [seg_cons xs i m ci (by omega), seg_cons xs k e hk he, mg, mg, List.cons_merge_cons, if_neg (show ¬ leI xs[i] xs[k] = true from fun q => cl (of_decide_eq_true q))]
          refine step1 (Ev.step (takeK hk hmg) 0 (fun q _ => ?_))
          rw [spec_sgNumbers.j4, if_pos rfl, if_neg nk, if_pos (show (i : Int) < (m : Int) by omega), if_pos pi0, if_pos li, if_pos pk0, if_pos lk, if_neg cl, if_pos oi, wrap_succ k hk6]
      · have hmg : mg ((xs.take m).drop i) ((xs.take e).drop k) = xs[k] :: mg ((xs.take m).drop i) ((xs.take e).drop (k + 1)) := by
          rw [seg_nil xs i m (by omega), seg_cons xs k e hk he, mg, mg, List.nil_merge, List.nil_merge]
        refine step1 (Ev.step (takeK hk hmg) 0 (fun q _ => ?_))
        rw [spec_sgNumbers.j4, if_pos rfl, if_neg nk, if_neg (show ¬ (i : Int) < (m : Int) by omega), if_pos pk0, if_pos lk, if_pos oi, wrap_succ k hk6]
def passM (s : Nat) : Nat → List Int → List Int
  | 0, _ => []
  | n + 1, xs => if xs.length = 0 then [] else mg (xs.take s) ((xs.drop s).take s) ++ passM s n (xs.drop (2 * s))
theorem passM_nil (s n : Nat) : passM s n [] = [] := by cases n <;> simp [passM]
theorem seg1 (xs : List Int) (f s : Nat) : (xs.take (min (f + s) xs.length)).drop f = (xs.drop f).take s := by
  rw [List.drop_take]
  by_cases c : f + s ≤ xs.length
  · rw [Nat.min_eq_left c, show f + s - f = s by omega]
  · rw [Nat.min_eq_right (by omega), List.take_of_length_le (by rw [List.length_drop]; omega), List.take_of_length_le (by rw [List.length_drop]; omega)]
theorem seg2 (xs : List Int) (f s : Nat) : (xs.take (min (f + 2 * s) xs.length)).drop (min (f + s) xs.length) = ((xs.drop f).drop s).take s := by
  rw [List.drop_take, List.drop_drop]
  by_cases c : f + s ≤ xs.length
  · rw [Nat.min_eq_left c]
    by_cases c2 : f + 2 * s ≤ xs.length
    · rw [Nat.min_eq_left c2, show f + 2 * s - (f + s) = s by omega]
    · rw [Nat.min_eq_right (by omega), List.take_of_length_le (by rw [List.length_drop]; omega), List.take_of_length_le (by rw [List.length_drop]; omega)]
  · rw [Nat.min_eq_right (show xs.length ≤ f + s by omega), List.drop_of_length_le (Nat.le_refl xs.length), List.drop_of_length_le (show xs.length ≤ f + s by omega)]
    simp
theorem least_nat (a b : Nat) (x : Int) (h : x = (a : Int)) : spec_l1Least.f x (b : Int) = some ((min a b : Nat) : Int) := by
  unfold spec_l1Least.f
  subst h
  by_cases c : (a : Int) < (b : Int)
  · rw [if_pos c, Nat.min_eq_left (by omega)]
  · rw [if_neg c, Nat.min_eq_right (by omega)]
theorem mg_len (a b : List Int) : (mg a b).length = a.length + b.length := by
  have h := (List.merge_perm_append (le := leI) (xs := a) (ys := b)).length_eq
  rw [List.length_append] at h
  exact h
theorem ev_l2 (xs : List Int) (hx : xs.length ≤ 5000) (s : Nat) (hs : s ≤ 5000) (hs1 : 1 ≤ s) (v : List Int) : ∀ (n f : Nat) (out : List Int), xs.length - f ≤ n → f ≤ 20000 → out.length + (xs.length - f) ≤ 5000 →
    Ev (fun q => spec_sgNumbers.l1 q (out ++ passM s n (xs.drop f)) (wrap64 ((s : Int) * 2))) v → Ev (fun q => spec_sgNumbers.l2 q xs s out f) v
  | n, f, out, hn, hf, ho, ev => by
    by_cases c : f < xs.length
    · obtain ⟨n, rfl⟩ : ∃ j, n = j + 1 := ⟨n - 1, by omega⟩
      rw [passM, if_neg (by rw [List.length_drop]; omega), show (xs.drop f).drop (2 * s) = xs.drop (f + 2 * s) by rw [List.drop_drop], ← List.append_assoc, ← seg1, ← seg2] at ev
      have hl1 : (mg ((xs.take (min (f + s) xs.length)).drop f) ((xs.take (min (f + 2 * s) xs.length)).drop (min (f + s) xs.length))).length + (xs.length - (f + 2 * s)) ≤ xs.length - f := by
        rw [mg_len, List.length_drop, List.length_drop, List.length_take, List.length_take]
        omega
      have w2 : wrap64 ((f : Int) + wrap64 (2 * (s : Int))) = ((f + 2 * s : Nat) : Int) := by
        rw [wrap_id (x := 2 * (s : Int)) (by omega) (by omega), wrap_id (by omega) (by omega)]; omega
      have w1 : wrap64 ((f : Int) + (s : Int)) = ((f + s : Nat) : Int) := by rw [wrap_id (by omega) (by omega)]; omega
      have IH := ev_l2 xs hx s hs hs1 v n (f + 2 * s) _ (by omega) (by omega) (by rw [List.length_append]; omega) ev
      rw [← w2] at IH
      have h3 := ev_l3 xs hx s f (min (f + s) xs.length) (min (f + 2 * s) xs.length) (by omega) (by omega) v _ f (min (f + s) xs.length) out rfl (by omega) (Nat.le_refl _) (by omega) (by omega) IH
      refine Ev.step h3 0 (fun q _ => ?_)
      rw [spec_sgNumbers.l2, if_pos (show (f : Int) < (xs.length : Int) by omega), least_nat (f + s) xs.length _ w1, Option.bind_some, least_nat (f + 2 * s) xs.length _ w2, Option.bind_some]
    · rw [List.drop_of_length_le (by omega), passM_nil, List.append_nil] at ev
      refine Ev.step ev 0 (fun q _ => ?_)
      rw [spec_sgNumbers.l2, if_neg (show ¬ (f : Int) < (xs.length : Int) by omega)]
termination_by n _ _ => n
def Srt (xs : List Int) : Prop := xs.Pairwise (fun a b => a ≤ b)
def BSd (s : Nat) (xs : List Int) : Prop := ∀ j, Srt ((xs.drop (j * s)).take s)
theorem mg_srt {a b : List Int} (ha : Srt a) (hb : Srt b) : Srt (mg a b) := by
  have h := List.pairwise_merge (le := leI) (l₁ := a) (l₂ := b) (fun x y z h1 h2 => decide_eq_true (Int.le_trans (of_decide_eq_true h1) (of_decide_eq_true h2))) (fun x y => by
    rcases Int.le_total x y with h | h
    · simp [leI, h]
    · simp [leI, h]) (ha.imp (fun h => decide_eq_true h)) (hb.imp (fun h => decide_eq_true h))
  exact h.imp (fun h => of_decide_eq_true h)
theorem passM_perm (s : Nat) (hs : 1 ≤ s) : ∀ (n : Nat) (xs : List Int), xs.length ≤ n → (passM s n xs).Perm xs
  | 0, xs, h => by
    have : xs = [] := List.length_eq_zero_iff.mp (by omega)
    rw [this]
    exact List.Perm.refl _
  | n + 1, xs, h => by
    rw [passM]
    by_cases c : xs.length = 0
    · rw [if_pos c, List.length_eq_zero_iff.mp c]
    · rw [if_neg c]
      have h1 := passM_perm s hs n (xs.drop (2 * s)) (by rw [List.length_drop]; omega)
      have h2 := List.merge_perm_append (le := leI) (xs := xs.take s) (ys := (xs.drop s).take s)
      have e : xs.take s ++ (xs.drop s).take s ++ xs.drop (2 * s) = xs := by
        rw [List.append_assoc, show 2 * s = s + s by omega, ← List.drop_drop, List.take_append_drop, List.take_append_drop]
      have h3 := List.Perm.append h2 h1
      rw [e] at h3
      exact h3
theorem passM_bs (s : Nat) (hs : 1 ≤ s) : ∀ (n : Nat) (xs : List Int), xs.length ≤ n → BSd s xs → BSd (2 * s) (passM s n xs)
  | 0, xs, h, hb, j => by simp [passM, Srt]
  | n + 1, xs, h, hb, j => by
    rw [passM]
    by_cases c : xs.length = 0
    · rw [if_pos c]; simp [Srt]
    · rw [if_neg c]
      have ha : Srt (xs.take s) := by have := hb 0; simpa using this
      have hb1 : Srt ((xs.drop s).take s) := by have := hb 1; rwa [Nat.one_mul] at this
      have hm := mg_srt ha hb1
      have hl := mg_len (xs.take s) ((xs.drop s).take s)
      rw [List.length_take, List.length_take, List.length_drop] at hl
      by_cases c2 : 2 * s ≤ xs.length
      · have hl2 : (mg (xs.take s) ((xs.drop s).take s)).length = 2 * s := by omega
        cases j with
        | zero =>
          rw [Nat.zero_mul, List.drop_zero, List.take_left' hl2]
          exact hm
        | succ j =>
          have IH := passM_bs s hs n (xs.drop (2 * s)) (by rw [List.length_drop]; omega) (fun i => by
            have := hb (i + 2)
            rw [List.drop_drop, show 2 * s + i * s = (i + 2) * s by rw [Nat.add_mul]; omega]
            exact this) j
          rw [show (j + 1) * (2 * s) = 2 * s + j * (2 * s) by rw [Nat.succ_mul]; omega, ← List.drop_drop, List.drop_left' hl2]
          exact IH
      · rw [show xs.drop (2 * s) = [] from List.drop_of_length_le (by omega), passM_nil, List.append_nil]
        exact (hm.sublist (List.drop_sublist _ _)).sublist (List.take_sublist _ _)
theorem ev_l1 : ∀ (t s : Nat) (xs : List Int), xs.length ≤ 4096 → xs.length ≤ s * 2 ^ t → 1 ≤ s → BSd s xs → ∃ M : List Int, M.Perm xs ∧ Srt M ∧ Ev (fun q => spec_sgNumbers.l1 q xs s) M
  | t, s, xs, hx, ht, hs, hb => by
    by_cases c : s < xs.length
    · obtain ⟨t, rfl⟩ : ∃ j, t = j + 1 := ⟨t - 1, by
        cases t with
        | zero => simp at ht; omega
        | succ t => rfl⟩
      have hp := passM_perm s hs xs.length xs (Nat.le_refl _)
      have hb2 := passM_bs s hs xs.length xs (Nat.le_refl _) hb
      obtain ⟨M, h1, h2, h3⟩ := ev_l1 t (2 * s) (passM s xs.length xs) (by rw [hp.length_eq]; exact hx) (by rw [hp.length_eq, Nat.mul_comm 2 s, Nat.mul_assoc, ← Nat.pow_succ']; exact ht) (by omega) hb2
      refine ⟨M, h1.trans hp, h2, ?_⟩
      have w : wrap64 ((s : Int) * 2) = ((2 * s : Nat) : Int) := by rw [wrap_id (by omega) (by omega)]; omega
      refine Ev.step (ev_l2 xs (by omega) s (by omega) hs M xs.length 0 [] (by omega) (by omega) (by simp; omega) ?_) 0 (fun q _ => ?_)
      · rw [w, List.drop_zero, List.nil_append]
        exact h3
      · rw [spec_sgNumbers.l1, if_pos (show (s : Int) < (xs.length : Int) by omega)]
        rfl
    · refine ⟨xs, List.Perm.refl _, ?_, Ev.step (Ev.const xs) 0 (fun q _ => ?_)⟩
      · have := hb 0
        rw [Nat.zero_mul, List.drop_zero, List.take_of_length_le (by omega)] at this
        exact this
      · rw [spec_sgNumbers.l1, if_neg (show ¬ (s : Int) < (xs.length : Int) by omega)]
termination_by t _ _ => t
theorem bs_one (xs : List Int) : BSd 1 xs := fun j => by
  rw [Nat.mul_one]
  cases h : xs.drop j with
  | nil => simp [Srt]
  | cons a l => simp [Srt]
theorem ev_l0 (l : List Int) (hl : digs l) (h1 : 1 ≤ l.length) (h7 : l.length ≤ 7) (gs : List (List Int)) (hg : ∀ g ∈ gs, g.length ≤ 6 ∧ ∀ s ∈ g, s = 42 ∨ s = 43 ∨ s = 45 ∨ s = 0) (hn : gs.length ≤ 4096) (v : List Int) : ∀ (d j : Nat) (acc : List Int), j + d = gs.length → acc.length ≤ j →
    Ev (fun q => spec_sgNumbers.l1 q (acc ++ (gs.drop j).map (valL l)) 1) v → Ev (fun q => spec_sgNumbers.l0 q acc (gs.map fun g => strOfNums (txt l g)) (gs.length : Int) j) v
  | 0, j, acc, e, ha, ev => by
    rw [List.drop_of_length_le (by omega), List.map_nil, List.append_nil] at ev
    refine Ev.step ev 0 (fun q _ => ?_)
    rw [spec_sgNumbers.l0, if_neg (show ¬ (j : Int) < (gs.length : Int) by omega)]
  | d + 1, j, acc, e, ha, ev => by
    have w2 : wrap64 ((j : Int) + 1) = ((j + 1 : Nat) : Int) := by rw [wrap_id (by omega) (by omega)]; omega
    have hj : j < gs.length := by omega
    have hr : rdOf ByteArray.empty (gs.map fun g => strOfNums (txt l g)) (j : Int) = strOfNums (txt l gs[j]) := by
      simp [rdOf, hj]
    have q1 : (j : Int) < (gs.length : Int) := by omega
    have hgj := hg gs[j] (List.getElem_mem hj)
    have IH := ev_l0 l hl h1 h7 gs hg hn v d (j + 1) (acc ++ [valL l gs[j]]) (by omega) (by simp; omega)
    rw [List.drop_eq_getElem_cons hj, List.map_cons, show acc ++ (valL l gs[j] :: (gs.drop (j + 1)).map (valL l)) = (acc ++ [valL l gs[j]]) ++ (gs.drop (j + 1)).map (valL l) by rw [List.append_assoc]; rfl] at ev
    refine Ev.step (IH ev) 40 (fun q hq => ?_)
    rw [spec_sgNumbers.l0, if_pos q1, if_pos (show (0 : Int) ≤ (j : Int) by omega), List.length_map, if_pos q1, hr, spec_value l hl h1 h7 gs[j] hgj.2 hgj.1 q (by omega), Option.bind_some, if_pos (by omega), w2]
theorem ev_numbers (l : List Int) (hl : digs l) (h1 : 1 ≤ l.length) (h7 : l.length ≤ 7) (p : Bool) : ∃ M : List Int, M.Perm ((sgD p (l.length - 1)).map (valL l)) ∧ Srt M ∧ Ev (fun q => spec_sgNumbers.f q (strOfNums l) p) M := by
  have hm := sgD_most p (d := l.length - 1) (by omega)
  obtain ⟨M, hp, hs, he⟩ := ev_l1 12 1 ((sgD p (l.length - 1)).map (valL l)) (by rw [List.length_map]; exact hm) (by rw [List.length_map]; exact Nat.le_trans hm (by decide)) (Nat.le_refl _) (bs_one _)
  refine ⟨M, hp, hs, ?_⟩
  have h0 := ev_l0 l hl h1 h7 (sgD p (l.length - 1)) (fun g hg => ⟨by rw [sgD_len p _ g hg]; omega, sgD_sgn p _ g hg⟩) hm M (sgD p (l.length - 1)).length 0 [] (by omega) (by simp) (by rw [List.drop_zero, List.nil_append]; exact he)
  obtain ⟨K, hK⟩ := h0
  refine ⟨K + 40001, fun k hk => ?_⟩
  show spec_sgNumbers.f k (strOfNums l) p = some M
  unfold spec_sgNumbers.f
  rw [spec_all l hl h1 h7 p k (by omega), Option.bind_some, List.length_map]
  exact hK k (by omega)

def onceL : List Int → List Int → List Int
  | acc, [] => acc
  | acc, n :: t => onceL (if acc.length = 0 ∨ rd acc ((acc.length - 1 : Nat) : Int) < n then acc ++ [n] else acc) t
theorem ev_once (M : List Int) (hM : M.length ≤ 5000) : ∀ (d j : Nat) (acc : List Int), j + d = M.length → acc.length ≤ j → Ev (fun q => spec_sgOnce.l0 q acc M (M.length : Int) j) (onceL acc (M.drop j))
  | 0, j, acc, e, ha => by
    rw [List.drop_of_length_le (by omega), onceL]
    refine Ev.step (Ev.const acc) 0 (fun q _ => ?_)
    rw [spec_sgOnce.l0, if_neg (show ¬ (j : Int) < (M.length : Int) by omega)]
  | d + 1, j, acc, e, ha => by
    have w2 : wrap64 ((j : Int) + 1) = ((j + 1 : Nat) : Int) := by rw [wrap_id (by omega) (by omega)]; omega
    have hj : j < M.length := by omega
    have q1 : (j : Int) < (M.length : Int) := by omega
    rw [List.drop_eq_getElem_cons hj, onceL]
    have IH := ev_once M hM d (j + 1)
    by_cases c0 : acc.length = 0
    · rw [if_pos (.inl c0)]
      refine Ev.step (IH (acc ++ [M[j]]) (by omega) (by simp; omega)) 0 (fun q _ => ?_)
      rw [spec_sgOnce.l0, if_pos q1, if_pos (show (0 : Int) ≤ (j : Int) by omega), if_pos q1, if_pos (show (acc.length : Int) = 0 by omega), if_pos (by omega), rd_get M j hj, w2]
    · have w3 : wrap64 ((acc.length : Int) - 1) = ((acc.length - 1 : Nat) : Int) := by rw [wrap_id (by omega) (by omega)]; omega
      by_cases c : rd acc ((acc.length - 1 : Nat) : Int) < M[j]
      · rw [if_pos (.inr c)]
        refine Ev.step (IH (acc ++ [M[j]]) (by omega) (by simp; omega)) 0 (fun q _ => ?_)
        rw [spec_sgOnce.l0, if_pos q1, if_pos (show (0 : Int) ≤ (j : Int) by omega), if_pos q1, if_neg (show ¬ (acc.length : Int) = 0 by omega), w3, if_pos (by omega), if_pos (by omega), rd_get M j hj, if_pos c, if_pos (by omega), w2]
      · rw [if_neg (by rintro (h | h) <;> contradiction)]
        refine Ev.step (IH acc (by omega) (by omega)) 0 (fun q _ => ?_)
        rw [spec_sgOnce.l0, if_pos q1, if_pos (show (0 : Int) ≤ (j : Int) by omega), if_pos q1, if_neg (show ¬ (acc.length : Int) = 0 by omega), w3, if_pos (by omega), if_pos (by omega), rd_get M j hj, if_neg c, w2]
theorem onceL_ok : ∀ (t acc : List Int), acc.Pairwise (fun a b => a < b) → Srt t → (∀ a ∈ acc, ∀ b ∈ t, a ≤ b) → (onceL acc t).Pairwise (fun a b => a < b) ∧ ∀ x, x ∈ onceL acc t ↔ x ∈ acc ∨ x ∈ t
  | [], acc, h1, _, _ => ⟨h1, fun x => by simp [onceL]⟩
  | n :: t, acc, h1, h2, h3 => by
    have h2t := List.pairwise_cons.mp h2
    rw [onceL]
    by_cases c : acc.length = 0 ∨ rd acc ((acc.length - 1 : Nat) : Int) < n
    · rw [if_pos c]
      have hlt : ∀ a ∈ acc, a < n := fun a ha => by
        rcases c with c | c
        · rw [List.length_eq_zero_iff.mp c] at ha; cases ha
        · obtain ⟨i, hi, rfl⟩ := List.getElem_of_mem ha
          rw [rd_get acc (acc.length - 1) (by omega)] at c
          by_cases e : i = acc.length - 1
          · subst e; exact c
          · have := List.pairwise_iff_getElem.mp h1 i (acc.length - 1) hi (by omega) (by omega)
            omega
      have hp : (acc ++ [n]).Pairwise (fun a b => a < b) := List.pairwise_append.mpr ⟨h1, by simp, fun a ha b hb => by simp at hb; subst hb; exact hlt a ha⟩
      have IH := onceL_ok t (acc ++ [n]) hp h2t.2 (fun a ha b hb => by
        rcases List.mem_append.mp ha with ha | ha
        · exact h3 a ha b (List.mem_cons_of_mem _ hb)
        · simp at ha; subst ha; exact h2t.1 b hb)
      refine ⟨IH.1, fun x => ?_⟩
      rw [IH.2 x, List.mem_append, List.mem_singleton, List.mem_cons]
      constructor
      · rintro ((h | h) | h)
        · exact .inl h
        · exact .inr (.inl h)
        · exact .inr (.inr h)
      · rintro (h | h | h)
        · exact .inl (.inl h)
        · exact .inl (.inr h)
        · exact .inr h
    · rw [if_neg c]
      have IH := onceL_ok t acc h1 h2t.2 (fun a ha b hb => h3 a ha b (List.mem_cons_of_mem _ hb))
      have hn : n ∈ acc := by
        have c1 : ¬ acc.length = 0 := fun q => c (.inl q)
        have c2 : ¬ rd acc ((acc.length - 1 : Nat) : Int) < n := fun q => c (.inr q)
        rw [rd_get acc (acc.length - 1) (by omega)] at c2
        have h5 := h3 acc[acc.length - 1] (List.getElem_mem _) n (List.mem_cons_self ..)
        have e : acc[acc.length - 1] = n := by omega
        rw [← e]
        exact List.getElem_mem _
      refine ⟨IH.1, fun x => ?_⟩
      rw [IH.2 x, List.mem_cons]
      constructor
      · rintro (h | h)
        · exact .inl h
        · exact .inr (.inr h)
      · rintro (h | h | h)
        · exact .inl h
        · rw [h]; exact .inl hn
        · exact .inr h
theorem nodup_le : ∀ (A B : List Int), A.Nodup → (∀ x ∈ A, x ∈ B) → A.length ≤ B.length
  | [], B, _, _ => by simp
  | a :: A, B, h, hs => by
    have h1 := List.nodup_cons.mp h
    have ha := hs a (List.mem_cons_self ..)
    have IH := nodup_le A (B.erase a) h1.2 (fun x hx => (List.mem_erase_of_ne (fun q => h1.1 (by rw [← q]; exact hx))).mpr (hs x (List.mem_cons_of_mem _ hx)))
    rw [List.length_erase_of_mem ha] at IH
    have : 0 < B.length := List.length_pos_of_mem ha
    rw [List.length_cons]
    omega
def addV (acc : List Int) (v : Int) : List Int := if v ∈ acc then acc else acc ++ [v]
theorem addV_ok : ∀ (L acc : List Int), acc.Nodup → (L.foldl addV acc).Nodup ∧ ∀ x, x ∈ L.foldl addV acc ↔ x ∈ acc ∨ x ∈ L
  | [], acc, h => ⟨h, fun x => by simp⟩
  | v :: L, acc, h => by
    rw [List.foldl_cons]
    by_cases c : v ∈ acc
    · rw [show addV acc v = acc from if_pos c]
      have IH := addV_ok L acc h
      refine ⟨IH.1, fun x => ?_⟩
      rw [IH.2 x, List.mem_cons]
      constructor
      · rintro (h | h)
        · exact .inl h
        · exact .inr (.inr h)
      · rintro (h | h | h)
        · exact .inl h
        · rw [h]; exact .inl c
        · exact .inr h
    · rw [show addV acc v = acc ++ [v] from if_neg c]
      have IH := addV_ok L (acc ++ [v]) (List.nodup_append.mpr ⟨h, by simp, fun a ha b hb => by simp at hb; subst hb; exact fun q => c (q ▸ ha)⟩)
      refine ⟨IH.1, fun x => ?_⟩
      rw [IH.2 x, List.mem_append, List.mem_singleton, List.mem_cons]
      constructor
      · rintro ((h | h) | h)
        · exact .inl h
        · exact .inr (.inl h)
        · exact .inr (.inr h)
      · rintro (h | h | h)
        · exact .inl (.inl h)
        · exact .inl (.inr h)
        · exact .inr h
theorem size_foldl : ∀ (L acc : List Int) (D : DataW Unit), Maps.Tidy D → (∀ v, Maps.has D (.int .i64 v) = decide (v ∈ acc)) → Maps.size D = acc.length → Maps.size (L.foldl putD D) = (L.foldl addV acc).length
  | [], acc, D, _, _, h => h
  | v :: L, acc, D, ht, hh, hs => by
    rw [List.foldl_cons, List.foldl_cons]
    have hp : Maps.size (putD D v) = if Maps.has D (.int .i64 v) then Maps.size D else Maps.size D + 1 := Maps.size_put ht _
    refine size_foldl L (addV acc v) (putD D v) (Maps.Tidy.put ht (isKey_int v) _) (fun y => ?_) ?_
    · by_cases c : y = v
      · subst c
        have h1 : Maps.has (putD D y) (.int .i64 y) = true := Maps.has_put_same ht.isMap (isKey_int y) _
        rw [h1]
        symm
        apply decide_eq_true
        unfold addV
        split
        · assumption
        · simp
      · have h1 : Maps.has (putD D v) (.int .i64 y) = Maps.has D (.int .i64 y) := Maps.has_put_other (by intro q; exact c (by injection q)) _
        rw [h1, hh y]
        unfold addV
        by_cases c2 : v ∈ acc
        · rw [if_pos c2]
        · rw [if_neg c2]
          simp [c]
    · rw [hp, hh v, hs]
      unfold addV
      by_cases c2 : v ∈ acc
      · rw [if_pos c2, if_pos (decide_eq_true c2)]
      · rw [if_neg c2, if_neg (by simpa using c2)]
        simp
theorem size_mapOf (L M : List Int) (hp : M.Perm L) (hs : Srt M) : Maps.size (mapOf L) = (onceL [] M).length := by
  have h1 := size_foldl L [] (.map []) Maps.tidy_empty (fun v => rfl) rfl
  have h2 := addV_ok L [] List.nodup_nil
  have h3 := onceL_ok M [] List.Pairwise.nil hs (fun a ha => by cases ha)
  have n3 : (onceL [] M).Nodup := h3.1.imp (fun h => by omega)
  unfold mapOf
  rw [h1]
  apply Nat.le_antisymm
  · exact nodup_le _ _ h2.1 (fun x hx => (h3.2 x).mpr (.inr (hp.mem_iff.mpr (((h2.2 x).mp hx).resolve_left (by simp)))))
  · exact nodup_le _ _ n3 (fun x hx => (h2.2 x).mpr (.inr (hp.mem_iff.mp (((h3.2 x).mp hx).resolve_left (by simp)))))

def upL : Nat → Int → List Int
  | 0, _ => []
  | n + 1, s => s :: upL n (s + 1)
theorem upL_len : ∀ (n : Nat) (s : Int), (upL n s).length = n
  | 0, _ => rfl
  | n + 1, s => by simp [upL, upL_len n]
theorem eqInt_l0 (l : List Int) (hl : l.length ≤ 1048576) : ∀ (d i k : Nat), i + d = l.length → d < k → laws_eqIntS.l0 k l l i = some true
  | 0, i, k, e, hk => by
    obtain ⟨k, rfl⟩ : ∃ m, k = m + 1 := ⟨k - 1, by omega⟩
    simp only [laws_eqIntS.l0]
    rw [if_neg (by omega)]
  | d + 1, i, k, e, hk => by
    obtain ⟨k, rfl⟩ : ∃ m, k = m + 1 := ⟨k - 1, by omega⟩
    simp only [laws_eqIntS.l0]
    rw [if_pos (by omega), if_pos (by omega), if_pos (by omega), if_true, wrap_id (by omega) (by omega)]
    exact eqInt_l0 l hl d (i + 1) k (by omega) (by omega)
theorem eqInt_self (l : List Int) (hl : l.length ≤ 1048576) (k : Nat) (hk : l.length < k) : laws_eqIntS.f k l l = some true := by
  unfold laws_eqIntS.f
  rw [if_pos rfl]
  exact eqInt_l0 l hl l.length 0 k (by omega) hk
theorem markInt_l0 : ∀ (rest pre : List Int) (s : Int) (k : Nat), pre.length + rest.length ≤ 1048576 → 0 ≤ s → s + rest.length ≤ 4000000 → rest.length < k →
    laws_markIntS.l0 k (pre ++ rest) s pre.length = some (s + rest.length, pre ++ upL rest.length s)
  | [], pre, s, k, _, _, _, hk => by
    obtain ⟨k, rfl⟩ : ∃ m, k = m + 1 := ⟨k - 1, by omega⟩
    simp only [laws_markIntS.l0]
    rw [if_neg (by simp)]
    simp [upL]
  | c :: rest, pre, s, k, h1, h2, h3, hk => by
    obtain ⟨k, rfl⟩ : ∃ m, k = m + 1 := ⟨k - 1, by omega⟩
    simp only [List.length_cons] at h1 h3 hk
    simp only [laws_markIntS.l0]
    rw [if_pos (by simp; omega), if_pos (by omega), wrap_id (by omega) (by omega), wrap_id (by omega) (by omega)]
    have e : (pre ++ c :: rest).set ((pre.length : Int)).toNat s = (pre ++ [s]) ++ rest := by
      rw [Int.toNat_natCast, List.set_append_right _ _ (Nat.le_refl _)]
      simp
    have := markInt_l0 rest (pre ++ [s]) (s + 1) k (by simp; omega) (by omega) (by omega) (by omega)
    rw [e]
    simp only [List.length_append, List.length_cons, List.length_nil] at this ⊢
    rw [show ((pre.length : Int) + 1) = ((pre.length + (0 + 1) : Nat) : Int) by omega, this]
    simp [upL]
    omega
theorem markInt (l : List Int) (hl : l.length ≤ 1048576) (k : Nat) (hk : l.length < k) : laws_markIntS.f k l 1 = some (1 + (l.length : Int), upL l.length 1) := by
  unfold laws_markIntS.f
  exact markInt_l0 l [] 1 k (by simpa using hl) (by omega) (by omega) hk
theorem heldInt_l0 : ∀ (n : Nat) (pre : List Int) (s : Int) (k : Nat), pre.length + n ≤ 1048576 → 0 ≤ s → s + n ≤ 4000000 → n < k →
    laws_heldIntS.l0 k (pre ++ upL n s) s pre.length = some (s + n)
  | 0, pre, s, k, _, _, _, hk => by
    obtain ⟨k, rfl⟩ : ∃ m, k = m + 1 := ⟨k - 1, by omega⟩
    simp only [laws_heldIntS.l0]
    rw [if_neg (by simp [upL])]
    simp
  | n + 1, pre, s, k, h1, h2, h3, hk => by
    obtain ⟨k, rfl⟩ : ∃ m, k = m + 1 := ⟨k - 1, by omega⟩
    simp only [laws_heldIntS.l0]
    have e : rd (pre ++ upL (n + 1) s) (pre.length : Int) = s := by simp [rd, upL]
    have e2 : (pre ++ upL (n + 1) s) = (pre ++ [s]) ++ upL n (s + 1) := by simp [upL]
    rw [if_pos (by simp [upL_len]; omega), if_pos (by omega), if_pos e, wrap_id (by omega) (by omega), wrap_id (by omega) (by omega), e2]
    have := heldInt_l0 n (pre ++ [s]) (s + 1) k (by simp; omega) (by omega) (by omega) (by omega)
    simp only [List.length_append, List.length_cons, List.length_nil] at this
    rw [show ((pre.length : Int) + 1) = ((pre.length + (0 + 1) : Nat) : Int) by omega, this]
    congr 1
    omega
theorem heldInt (n : Nat) (hn : n ≤ 1048576) (k : Nat) (hk : n < k) : laws_heldIntS.f k (upL n 1) 1 = some (1 + (n : Int)) := by
  unfold laws_heldIntS.f
  exact heldInt_l0 n [] 1 k (by simpa using hn) (by omega) (by omega) hk

theorem once_keys (L M : List Int) (hp : M.Perm L) (hs : Srt M) : onceL [] M = keysT L := by
  have h1 := onceL_ok M [] List.Pairwise.nil hs (fun a ha => by cases ha)
  have h2 := addK_ok L [] List.nodup_nil
  have h3 := srtI_ok (L.foldl addK []) h2.1
  refine strict_ext _ _ h1.1 h3.1 (fun n => ?_)
  rw [h1.2, show (n ∈ keysT L ↔ n ∈ L.foldl addK []) from h3.2 n, h2.2]
  constructor
  · rintro (q | q)
    · cases q
    · exact .inr (hp.mem_iff.mp q)
  · rintro (q | q)
    · cases q
    · exact .inr (hp.mem_iff.mpr q)
theorem FnExactNumbersMade : laws_FnExactNumbersMade.Pure := by
  intro s hs
  obtain ⟨l, hb, rfl, hl⟩ := as_list s
  unfold laws_FnExactNumbersMade.f
  by_cases h : ((strOfNums l).size : Int) > 1048576
  · exact ⟨0, by rw [if_pos h]⟩
  · have key : ∃ L b K0, L.length ≤ 5000 ∧ (∀ k, K0 ≤ k → spec_NumbersMade.f k (strOfNums l) = some (L, b)) ∧ (∀ k, K0 ≤ k → impl_NumbersMade.f k (strOfNums l) = some (L, b)) := by
      by_cases c : digOk l = true
      · have hd := as_digs l hb c
        obtain ⟨M, hp, hst, K, hK⟩ := ev_numbers l hd.1 hd.2.1 hd.2.2 true
        have hm := numT_most l hd.1 hd.2.1 hd.2.2 true
        have he := numT_eq l hd.1 hd.2.1 true
        have hM : M.length ≤ 4096 := by
          rw [he] at hm
          rw [hp.length_eq]
          exact hm
        obtain ⟨K2, hK2⟩ := ev_once M (by omega) M.length 0 [] (by omega) (by simp)
        rw [List.drop_zero, show ((0 : Nat) : Int) = 0 from rfl] at hK2
        have e3 := once_keys (numT (strOfNums l) true) M (by rw [he]; exact hp) hst
        have h1 := onceL_ok M [] List.Pairwise.nil hst (fun a ha => by cases ha)
        have hlen : (onceL [] M).length ≤ M.length := nodup_le _ _ (h1.1.imp (fun h => by omega)) (fun x hx => ((h1.2 x).mp hx).resolve_left (by simp))
        refine ⟨onceL [] M, true, K + K2 + l.length + 1, by omega, fun k hk => ?_, fun k hk => ?_⟩
        · have e1 : spec_sgNumbers.f k (strOfNums l) true = some M := hK _ (by omega)
          have e2 : spec_sgOnce.f k M = some (onceL [] M) := hK2 _ (by omega)
          unfold spec_NumbersMade.f
          rw [spec_dig l (by omega) _ (by omega), Option.bind_some, c, if_pos rfl, e1, Option.bind_some, e2, Option.bind_some]
        · unfold impl_NumbersMade.f
          rw [impl_some l (by omega) _ (by omega), Option.bind_some, c, if_pos rfl, e3]
      · refine ⟨[], false, l.length + 1, by simp, fun k hk => ?_, fun k hk => ?_⟩
        · unfold spec_NumbersMade.f
          rw [spec_dig l (by omega) _ (by omega), Option.bind_some, if_neg c]
        · unfold impl_NumbersMade.f
          rw [impl_some l (by omega) _ (by omega), Option.bind_some, if_neg c]
    obtain ⟨L, b, K0, hL, S, I⟩ := key
    refine ⟨K0 + 6000, ?_⟩
    rw [if_neg h, S _ (by omega), I _ (by omega), Option.bind_some, Option.bind_some, eqInt_self L (by omega) _ (by omega), Option.bind_some, if_pos rfl, bne_self_eq_false]
    rw [show K0 + 6000 = (K0 + 5999) + 1 by omega, laws_FnExactNumbersMade.j0, if_neg (by simp), markInt L (by omega) _ (by omega), Option.bind_some, heldInt L.length (by omega) _ (by omega), Option.bind_some, if_neg (by omega), if_pos rfl, I _ (by omega), Option.bind_some, eqInt_self L (by omega) _ (by omega), Option.bind_some, if_pos rfl, bne_self_eq_false]
    rw [show K0 + 5999 = (K0 + 5998) + 1 by omega, laws_FnExactNumbersMade.j1, if_neg (by simp), heldInt L.length (by omega) _ (by omega), Option.bind_some, if_neg (by omega), if_pos rfl]

end Go.Proofs.Ytmodpjlbbmfbaaa.Pure
