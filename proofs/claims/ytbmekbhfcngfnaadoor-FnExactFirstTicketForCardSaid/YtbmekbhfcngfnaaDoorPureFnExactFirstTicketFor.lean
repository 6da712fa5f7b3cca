/- For all digits and numbers the program's FirstTicketFor and the reference's answer alike: the plain law, without conditions. -/
import Derived.Test.YtbmekbhfcngfnaaDoorPFnExactFirstTicketForx4
set_option linter.unusedVariables false
set_option linter.unusedSimpArgs false
namespace Go.Proofs.YtbmekbhfcngfnaaDoor.Pure
open Go.RowKit Go.Proofs.YtbmekbhfcngfnaaDoor.PFnExactFirstTicketFor Go.Proofs.YtbmekbhfcngfnaaDoorW.PrintWords Go.Proofs.YtbmekbhfcngfnaaDoorW.PrintLast Go.Proofs.YtbmekbhfcngfnaaDoorW.PrintMore

theorem wrap_id {x : Int} (h0 : -9223372036854775808 ≤ x) (h1 : x < 9223372036854775808) : wrap64 x = x := by
  unfold wrap64
  omega
theorem lit_wf {x : Int} (h : (Lit.int .i64 x).wf = true) : -9223372036854775808 ≤ x ∧ x < 9223372036854775808 := by
  have h2 := h
  simp [Lit.wf, IntKind.min, IntKind.max, IntKind.bits, IntKind.signed] at h2
  omega
theorem wrap_add (x y : Int) : wrap64 (wrap64 x + y) = wrap64 (x + y) := by
  have e : ∀ (m c : Int), ((x + c) % m - c + y + c) % m = (x + y + c) % m := fun m c => by
    have h1 : (x + c) % m - c + y + c = (x + c) % m + y := by generalize (x + c) % m = q; omega
    rw [h1, Int.emod_add_emod, show x + c + y = x + y + c by omega]
  unfold wrap64
  rw [e]
theorem wrap_sub (x y : Int) : wrap64 (wrap64 x - y) = wrap64 (x - y) := by
  rw [Int.sub_eq_add_neg, wrap_add, Int.sub_eq_add_neg]

theorem son_size (l : List Int) : (strOfNums l).size = l.length := by simp [strOfNums, ByteArray.size]
theorem son_nil : (⟨#[]⟩ : ByteArray) = strOfNums [] := rfl
theorem son_append (l m : List Int) : strOfNums l ++ strOfNums m = strOfNums (l ++ m) := by
  apply ByteArray.ext
  simp [strOfNums]
theorem son_extract (l : List Int) (i j : Nat) : (strOfNums l).extract i j = strOfNums ((l.take j).drop i) := by
  apply ByteArray.ext
  rw [ByteArray.data_extract]
  apply Array.ext'
  simp [strOfNums, Array.toList_extract, List.extract, List.map_take, List.map_drop, List.drop_take]
def byts (l : List Int) : Prop := ∀ c ∈ l, 0 ≤ c ∧ c < 256
theorem son_bt (l : List Int) (h : byts l) (i : Nat) (hi : i < l.length) : bt (strOfNums l) i = l[i] := by
  unfold bt
  have h1 : (i : Int).toNat < (strOfNums l).size := by rw [son_size]; simpa using hi
  rw [dif_pos h1]
  have h2 := h l[i] (List.getElem_mem hi)
  have h3 : ((strOfNums l)[(i : Int).toNat]'h1) = UInt8.ofNat (l[i]).toNat := by
    show (strOfNums l).data[(i : Int).toNat] = _
    simp [strOfNums]
  rw [h3]
  simp
  omega
theorem bytesOf_byts (s : ByteArray) : byts (bytesOf s) := by
  intro c hc
  simp only [bytesOf, List.mem_map] at hc
  obtain ⟨b, _, rfl⟩ := hc
  have := b.toNat_lt
  omega
theorem son_bytesOf (s : ByteArray) : strOfNums (bytesOf s) = s := by
  apply ByteArray.ext
  apply Array.ext'
  simp [strOfNums, bytesOf, Function.comp_def]
def digs (l : List Int) : Prop := ∀ c ∈ l, 48 ≤ c ∧ c ≤ 57
theorem digs_byts {l : List Int} (h : digs l) : byts l := fun c hc => by have := h c hc; omega
theorem digs_append {l m : List Int} (h : digs l) (k : digs m) : digs (l ++ m) := fun c hc => by
  rcases List.mem_append.mp hc with hc | hc
  · exact h c hc
  · exact k c hc
theorem digs_one {c : Int} (h : 48 ≤ c ∧ c ≤ 57) : digs [c] := fun x hx => by simp at hx; subst hx; exact h
theorem digs_take {l : List Int} (h : digs l) (n : Nat) : digs (l.take n) := fun c hc => h c (List.mem_of_mem_take hc)
theorem digs_drop {l : List Int} (h : digs l) (n : Nat) : digs (l.drop n) := fun c hc => h c (List.mem_of_mem_drop hc)
def sN : List Int → Int
  | [] => 0
  | c :: l => (c - 48) + sN l
theorem sN_append (l m : List Int) : sN (l ++ m) = sN l + sN m := by
  induction l with
  | nil => simp [sN]
  | cons c l ih => simp [sN, ih]; omega
theorem sN_range (l : List Int) (h : digs l) : 0 ≤ sN l ∧ sN l ≤ 9 * l.length := by
  induction l with
  | nil => simp [sN]
  | cons c l ih =>
    have h1 := h c (by simp)
    have h2 := ih (fun x hx => h x (by simp [hx]))
    simp [sN]; omega

def allFrom (s : ByteArray) : Nat → Nat → Bool
  | 0, _ => true
  | d + 1, i => if bt s i < 48 then false else if bt s i > 57 then false else allFrom s d (i + 1)
theorem allFrom_bt (s : ByteArray) : ∀ (d i : Nat), allFrom s d i = true → ∀ j : Nat, i ≤ j → j < i + d → 48 ≤ bt s j ∧ bt s j ≤ 57
  | 0, i, _, j, h1, h2 => by omega
  | d + 1, i, h, j, h1, h2 => by
    unfold allFrom at h
    by_cases c1 : bt s i < 48
    · rw [if_pos c1] at h; cases h
    · rw [if_neg c1] at h
      by_cases c2 : bt s i > 57
      · rw [if_pos c2] at h; cases h
      · rw [if_neg c2] at h
        by_cases e : j = i
        · subst e; omega
        · exact allFrom_bt s d (i + 1) h j (by omega) (by omega)
def good (s : ByteArray) : Bool := decide (2 ≤ s.size) && decide (s.size ≤ 12) && (s.size % 2 == 0) && allFrom s s.size 0
theorem good_size {s : ByteArray} (h : good s = true) : 2 ≤ s.size ∧ s.size ≤ 12 ∧ s.size % 2 = 0 := by
  simp [good] at h; omega
theorem good_bt {s : ByteArray} (h : good s = true) (j : Nat) (hj : j < s.size) : 48 ≤ bt s j ∧ bt s j ≤ 57 := by
  simp only [good, Bool.and_eq_true] at h
  exact allFrom_bt s s.size 0 h.2 j (by omega) (by omega)
theorem rd_get (l : List Int) (i : Nat) (h : i < l.length) : rd l (i : Int) = l[i] := by simp [rd, h]
def digOk (q : List Int) : Bool := decide (1 ≤ q.length) && decide (q.length ≤ 7) && allFrom (strOfNums q) q.length 0
theorem as_list (s : ByteArray) : ∃ l : List Int, byts l ∧ s = strOfNums l ∧ l.length = s.size := ⟨bytesOf s, bytesOf_byts s, (son_bytesOf s).symm, bytesOf_length s⟩


theorem wrap_mul (x y : Int) : wrap64 (wrap64 x * y) = wrap64 (x * y) := by
  have e : ∀ (m c : Int), (((x + c) % m - c) * y + c) % m = (x * y + c) % m := fun m c => by
    have h1 : ((x + c) % m - c) * y + c = (x * y + c) + m * (-((x + c) / m) * y) := by
      rw [Int.emod_def]
      generalize (x + c) / m = q
      have h2 : x + c - m * q - c = x - m * q := by generalize m * q = z; omega
      rw [h2, Int.sub_mul, Int.neg_mul, Int.mul_neg, Int.mul_assoc]
      generalize m * (q * y) = z
      generalize x * y = u
      omega
    rw [h1, Int.add_mul_emod_self_left]
  unfold wrap64
  rw [e]
theorem wrap_mul_r (x y : Int) : wrap64 (x * wrap64 y) = wrap64 (x * y) := by
  rw [Int.mul_comm, wrap_mul, Int.mul_comm]
theorem dig_wrap (x : Int) : wrap64 (wrap64 (10 * 0) + (x - 48) % 256) = (x - 48) % 256 := by
  rw [wrap_add, Int.mul_zero, Int.zero_add, wrap_id (by omega) (by omega)]
def sgA (p : Bool) : List Int := if p = true then [43, 45, 0] else [42, 43, 45, 0]
def sgD (p : Bool) : Nat → List (List Int)
  | 0 => [[]]
  | d + 1 => (sgA p).flatMap fun s => (sgD p d).map fun g => s :: g
theorem sgD_end (p : Bool) : ∀ d, sgD p (d + 1) = (sgD p d).flatMap fun g => (sgA p).map fun s => g ++ [s]
  | 0 => by
    simp only [sgD, List.map_cons, List.map_nil, List.flatMap_cons, List.flatMap_nil, List.append_nil, List.nil_append]
    induction sgA p with
    | nil => rfl
    | cons a l ih => rw [List.flatMap_cons, List.map_cons, ih]; rfl
  | d + 1 => by
    have e1 : sgD p (d + 1 + 1) = (sgA p).flatMap fun s => (sgD p (d + 1)).map fun g => s :: g := rfl
    have e2 : sgD p (d + 1) = (sgA p).flatMap fun s => (sgD p d).map fun g => s :: g := rfl
    rw [e1, sgD_end p d]
    conv => rhs; rw [← sgD_end p d, e2, List.flatMap_assoc]
    congr 1
    funext s
    rw [List.map_flatMap, List.flatMap_map]
    congr 1
    funext g
    rw [List.map_map]
    rfl
theorem sgD_len (p : Bool) : ∀ d g, g ∈ sgD p d → g.length = d
  | 0, g, h => by simp [sgD] at h; simp [h]
  | d + 1, g, h => by
    simp only [sgD, List.mem_flatMap, List.mem_map] at h
    obtain ⟨s, _, g', h1, rfl⟩ := h
    rw [List.length_cons, sgD_len p d g' h1]
theorem sgA_len (p : Bool) : (sgA p).length ≤ 4 := by cases p <;> simp [sgA]
theorem flat_len {α β : Type} (f : α → List β) (n : Nat) : ∀ l : List α, (∀ a ∈ l, (f a).length ≤ n) → (l.flatMap f).length ≤ n * l.length
  | [], _ => by simp
  | a :: l, h => by
    rw [List.flatMap_cons, List.length_append, List.length_cons, Nat.mul_succ]
    have := h a (List.mem_cons_self ..)
    have := flat_len f n l (fun b hb => h b (List.mem_cons_of_mem _ hb))
    omega
theorem sgD_many (p : Bool) : ∀ d, (sgD p d).length ≤ 4 ^ d
  | 0 => by simp [sgD]
  | d + 1 => by
    have h1 := flat_len (fun g : List Int => (sgA p).map fun s => g ++ [s]) 4 (sgD p d) (fun g _ => by simpa using sgA_len p)
    have h2 := sgD_many p d
    rw [sgD_end, Nat.pow_succ]
    omega
theorem sgD_most (p : Bool) {d : Nat} (h : d ≤ 6) : (sgD p d).length ≤ 4096 :=
  Nat.le_trans (sgD_many p d) (Nat.le_trans (Nat.pow_le_pow_right (by decide) h) (by decide))
theorem sgA_sgn {p : Bool} {s : Int} (h : s ∈ sgA p) : s = 42 ∨ s = 43 ∨ s = 45 ∨ s = 0 := by
  cases p <;> simp [sgA] at h <;> omega
theorem sgD_sgn (p : Bool) : ∀ d g, g ∈ sgD p d → ∀ s ∈ g, s = 42 ∨ s = 43 ∨ s = 45 ∨ s = 0
  | 0, g, h => by simp [sgD] at h; simp [h]
  | d + 1, g, h => by
    simp only [sgD, List.mem_flatMap, List.mem_map] at h
    obtain ⟨s, hs, g', h1, rfl⟩ := h
    intro t ht
    rcases List.mem_cons.mp ht with rfl | ht
    · exact sgA_sgn hs
    · exact sgD_sgn p d g' h1 t ht
def txL : List Int → List Int → List Int
  | s :: g, x :: xs => (if s = 0 then [x] else [s, x]) ++ txL g xs
  | _, _ => []
def txt (l g : List Int) : List Int := l.take 1 ++ txL g (l.drop 1)
theorem txL_end (s : Int) : ∀ (g xs : List Int) (h : g.length < xs.length), txL (g ++ [s]) xs = txL g xs ++ (if s = 0 then [xs[g.length]] else [s, xs[g.length]])
  | [], x :: xs, h => by simp [txL]
  | a :: g, x :: xs, h => by
    have h' : g.length < xs.length := by simpa using h
    rw [List.cons_append, txL, txL, txL_end s g xs h', List.append_assoc]
    rfl
  | [], [], h => by simp at h
  | a :: g, [], h => by simp at h
theorem txL_len : ∀ g xs : List Int, (txL g xs).length ≤ 2 * g.length
  | [], xs => by simp [txL]
  | a :: g, [] => by simp [txL]
  | a :: g, x :: xs => by
    have := txL_len g xs
    rw [txL, List.length_append, List.length_cons]
    split <;> simp <;> omega
theorem txt_len (l g : List Int) : (txt l g).length ≤ 2 * g.length + 1 := by
  have := txL_len g (l.drop 1)
  rw [txt, List.length_append, List.length_take]
  omega
theorem txt_end (s : Int) (l g : List Int) (h : g.length + 1 < l.length) : txt l (g ++ [s]) = txt l g ++ (if s = 0 then [l[g.length + 1]] else [s, l[g.length + 1]]) := by
  rw [txt, txt, txL_end s g _ (by simp; omega), List.append_assoc]
  congr 2
  simp [Nat.add_comm]
theorem txL_byts {g xs : List Int} (hg : ∀ s ∈ g, s = 42 ∨ s = 43 ∨ s = 45 ∨ s = 0) (hx : byts xs) : byts (txL g xs) := by
  induction g generalizing xs with
  | nil => intro c hc; simp [txL] at hc
  | cons a g ih =>
    cases xs with
    | nil => intro c hc; simp [txL] at hc
    | cons x xs =>
      intro c hc
      rw [txL, List.mem_append] at hc
      rcases hc with hc | hc
      · have h1 := hg a (List.mem_cons_self ..)
        have h2 := hx x (List.mem_cons_self ..)
        split at hc
        · simp at hc; subst hc; exact h2
        · simp at hc; rcases hc with rfl | rfl
          · omega
          · exact h2
      · exact ih (fun s hs => hg s (List.mem_cons_of_mem _ hs)) (fun c hc => hx c (List.mem_cons_of_mem _ hc)) c hc
theorem txt_byts {l g : List Int} (hg : ∀ s ∈ g, s = 42 ∨ s = 43 ∨ s = 45 ∨ s = 0) (hl : byts l) : byts (txt l g) := by
  intro c hc
  rw [txt, List.mem_append] at hc
  rcases hc with hc | hc
  · exact hl c (List.mem_of_mem_take hc)
  · exact txL_byts hg (fun c hc => hl c (List.mem_of_mem_drop hc)) c hc
def vL : List Int → Int → Int → Int → Int → Int
  | [], S, s, p, n => wrap64 (S + wrap64 (wrap64 (s * p) * n))
  | c :: r, S, s, p, n => if c = 42 then vL r S s (wrap64 (p * n)) 0 else if c = 43 then vL r (wrap64 (S + wrap64 (wrap64 (s * p) * n))) 1 1 0 else if c = 45 then vL r (wrap64 (S + wrap64 (wrap64 (s * p) * n))) (-1) 1 0 else vL r S s p (wrap64 (wrap64 (10 * n) + (c - 48) % 256))
theorem spec_value_l0 (l : List Int) (hb : byts l) (hl : l.length ≤ 100) : ∀ (d i k : Nat) (S s p n : Int), i + d = l.length → 2 * d < k → spec_sgValue.l0 k (strOfNums l) S s p n i = some (vL (l.drop i) S s p n)
  | 0, i, k, S, s, p, n, e, hk => by
    obtain ⟨k, rfl⟩ : ∃ j, k = j + 1 := ⟨k - 1, by omega⟩
    rw [spec_sgValue.l0, son_size, if_neg (show ¬ (i : Int) < (l.length : Int) by omega), List.drop_of_length_le (by omega), vL]
  | d + 1, i, k, S, s, p, n, e, hk => by
    obtain ⟨k, rfl⟩ : ∃ j, k = j + 2 := ⟨k - 2, by omega⟩
    have hi : i < l.length := by omega
    have w1 : wrap64 ((i : Int) + 1) = ((i + 1 : Nat) : Int) := by rw [wrap_id (by omega) (by omega)]; omega
    have p1 : (i : Int) < (l.length : Int) := by omega
    have p2 : (0 : Int) ≤ (i : Int) := by omega
    rw [spec_sgValue.l0, son_size, if_pos p1, if_pos p2, son_bt l hb i hi, w1, List.drop_eq_getElem_cons hi, vL]
    by_cases c1 : l[i] = 42
    · rw [if_pos c1, if_pos c1]
      exact spec_value_l0 l hb hl d (i + 1) _ _ _ _ _ (by omega) (by omega)
    · rw [if_neg c1, if_neg c1]
      by_cases c2 : l[i] = 43
      · rw [if_pos c2, if_pos c2, spec_sgValue.j1, if_pos (beq_iff_eq.2 c2), if_pos p2, son_size, if_pos p1, son_bt l hb i hi, if_neg (show ¬ l[i] = 45 by omega), w1]
        exact spec_value_l0 l hb hl d (i + 1) _ _ _ _ _ (by omega) (by omega)
      · rw [if_neg c2, if_neg c2, spec_sgValue.j1, son_size, son_bt l hb i hi]
        by_cases c3 : l[i] = 45
        · rw [if_pos (beq_iff_eq.2 c3), if_pos p2, if_pos p1, if_pos c3, if_pos c3, w1]
          exact spec_value_l0 l hb hl d (i + 1) _ _ _ _ _ (by omega) (by omega)
        · rw [if_neg (fun q => c3 (beq_iff_eq.1 q)), if_pos p2, if_pos p1, if_neg c3, w1]
          exact spec_value_l0 l hb hl d (i + 1) _ _ _ _ _ (by omega) (by omega)
def runL : List Int → List Int → Int × Int × Int → Int × Int × Int
  | s :: g, x :: xs, r => runL g xs (onT r s x)
  | _, _, r => r
def valL (l g : List Int) : Int := valT (runL g (l.drop 1) (0, 1, (rd l 0 - 48) % 256))
theorem vL_dig {x : Int} (h : 48 ≤ x ∧ x ≤ 57) (r : List Int) (S s p n : Int) : vL (x :: r) S s p n = vL r S s p (wrap64 (wrap64 (10 * n) + (x - 48) % 256)) := by
  rw [vL, if_neg (by omega), if_neg (by omega), if_neg (by omega)]
theorem vL_run : ∀ (g xs : List Int) (S s p n : Int), (∀ s ∈ g, s = 42 ∨ s = 43 ∨ s = 45 ∨ s = 0) → digs xs → vL (txL g xs) S s p n = valT (runL g xs (S, wrap64 (s * p), n))
  | [], xs, S, s, p, n, _, _ => by simp only [txL, runL]; rw [vL]; rfl
  | a :: g, [], S, s, p, n, _, _ => by simp only [txL, runL]; rw [vL]; rfl
  | a :: g, x :: xs, S, s, p, n, hg, hx => by
    have hx0 := hx x (List.mem_cons_self ..)
    have IH := fun S s p n => vL_run g xs S s p n (fun s hs => hg s (List.mem_cons_of_mem _ hs)) (fun c hc => hx c (List.mem_cons_of_mem _ hc))
    rw [txL, runL]
    rcases hg a (List.mem_cons_self ..) with rfl | rfl | rfl | rfl
    · rw [if_neg (by omega), List.cons_append, List.cons_append, List.nil_append, vL, if_pos rfl, vL_dig hx0, dig_wrap, IH, onT, if_pos rfl, wrap_mul_r, wrap_mul, Int.mul_assoc]
    · rw [if_neg (by omega), List.cons_append, List.cons_append, List.nil_append, vL, if_neg (by omega), if_pos rfl, vL_dig hx0, dig_wrap, IH, onT, if_neg (by omega), if_pos rfl, show (1 : Int) * 1 = 1 from rfl, wrap_id (x := 1) (by omega) (by omega)]
    · rw [if_neg (by omega), List.cons_append, List.cons_append, List.nil_append, vL, if_neg (by omega), if_neg (by omega), if_pos rfl, vL_dig hx0, dig_wrap, IH, onT, if_neg (by omega), if_neg (by omega), if_pos rfl, show (-1 : Int) * 1 = -1 from rfl, wrap_id (x := -1) (by omega) (by omega)]
    · rw [if_pos rfl, List.cons_append, List.nil_append, vL_dig hx0, IH, onT, if_neg (by omega), if_neg (by omega), if_neg (by omega)]
theorem spec_value (l : List Int) (hl : digs l) (h1 : 1 ≤ l.length) (h7 : l.length ≤ 7) (g : List Int) (hg : ∀ s ∈ g, s = 42 ∨ s = 43 ∨ s = 45 ∨ s = 0) (hn : g.length ≤ 6) (k : Nat) (hk : 30 < k) : spec_sgValue.f k (strOfNums (txt l g)) = some (valL l g) := by
  have hlen := txt_len l g
  unfold spec_sgValue.f
  rw [show (0 : Int) = ((0 : Nat) : Int) from rfl, spec_value_l0 _ (txt_byts hg (digs_byts hl)) (by omega) (txt l g).length 0 k _ _ _ _ (by omega) (by omega), List.drop_zero]
  cases l with
  | nil => simp at h1
  | cons x xs =>
    have hx0 := hl x (List.mem_cons_self ..)
    have e : txt (x :: xs) g = x :: txL g xs := by simp [txt]
    rw [e, show ((0 : Nat) : Int) = 0 from rfl, vL_dig hx0, dig_wrap, vL_run g xs _ _ _ _ hg (fun c hc => hl c (List.mem_cons_of_mem _ hc)), Int.mul_one, wrap_id (by omega) (by omega)]
    rfl
theorem all_l1 (l : List Int) (hl : digs l) (h7 : l.length ≤ 7) (p : Bool) (gs : List (List Int)) (i : Nat) (hi : i < l.length) (hg : ∀ g ∈ gs, g.length + 1 = i) (hn : gs.length ≤ 4096) : ∀ (d j m : Nat) (acc : List ByteArray), j + d = gs.length → acc.length ≤ 4 * j →
    spec_sgAll.l1 (d + 1 + m) (strOfNums l) p i acc (gs.map fun g => strOfNums (txt l g)) (gs.length : Int) j = spec_sgAll.l0 (m) (strOfNums l) p (acc ++ (gs.drop j).flatMap fun g => (sgA p).map fun s => strOfNums (txt l (g ++ [s]))) ((i + 1 : Nat) : Int)
  | 0, j, m, acc, e, ha => by
    have w1 : wrap64 ((i : Int) + 1) = ((i + 1 : Nat) : Int) := by rw [wrap_id (by omega) (by omega)]; omega
    rw [show 0 + 1 + m = m + 1 by omega, spec_sgAll.l1, if_neg (show ¬ (j : Int) < (gs.length : Int) by omega), w1, List.drop_of_length_le (by omega), List.flatMap_nil, List.append_nil]
  | d + 1, j, m, acc, e, ha => by
    have w1 : wrap64 ((i : Int) + 1) = ((i + 1 : Nat) : Int) := by rw [wrap_id (by omega) (by omega)]; omega
    have w2 : wrap64 ((j : Int) + 1) = ((j + 1 : Nat) : Int) := by rw [wrap_id (by omega) (by omega)]; omega
    have hj : j < gs.length := by omega
    have hr : rdOf ByteArray.empty (gs.map fun g => strOfNums (txt l g)) (j : Int) = strOfNums (txt l gs[j]) := by
      simp [rdOf, hj]
    have hgl := hg gs[j] (List.getElem_mem hj)
    have htl := txt_len l gs[j]
    have he : (strOfNums l).extract ((i : Int)).toNat (((i + 1 : Nat) : Int)).toNat = strOfNums [l[i]] := by
      rw [son_extract, Int.toNat_natCast, Int.toNat_natCast, List.take_succ_eq_append_getElem hi, List.drop_append_of_le_length (by simp; omega)]
      congr 1
      simp
    have IH := fun acc => all_l1 l hl h7 p gs i hi hg hn d (j + 1) m acc (by omega)
    have hs : ∀ s : Int, s ≠ 0 → strOfNums (txt l (gs[j] ++ [s])) = strOfNums (txt l gs[j] ++ [s] ++ [l[i]]) := fun s h0 => by
      rw [txt_end s l gs[j] (by omega), if_neg h0, List.append_assoc]
      simp [hgl]
    have hs0 : strOfNums (txt l (gs[j] ++ [0])) = strOfNums (txt l gs[j] ++ [l[i]]) := by
      rw [txt_end 0 l gs[j] (by omega), if_pos rfl]
      simp [hgl]
    have q1 : (j : Int) < (gs.length : Int) := by omega
    have q2 : (0 : Int) ≤ (j : Int) := by omega
    have q3 : (0 : Int) ≤ (i : Int) := by omega
    have q4 : (i : Int) ≤ ((i + 1 : Nat) : Int) := by omega
    have q5 : ((i + 1 : Nat) : Int) ≤ (l.length : Int) := by omega
    have z1 : (txt l gs[j]).length + 1 ≤ 9223372036854775807 := by omega
    have z2 : ∀ s : Int, (txt l gs[j] ++ [s]).length + [l[i]].length ≤ 9223372036854775807 := fun s => by simp; omega
    have z3 : (txt l gs[j]).length + [l[i]].length ≤ 9223372036854775807 := by simp; omega
    rw [show d + 1 + 1 + m = (d + 1 + m) + 1 by omega, spec_sgAll.l1, hr, w1, w2, he, if_pos q1, if_pos q2, List.length_map, if_pos q1,
      show (⟨#[42]⟩ : ByteArray) = strOfNums [42] from rfl, show (⟨#[43]⟩ : ByteArray) = strOfNums [43] from rfl, show (⟨#[45]⟩ : ByteArray) = strOfNums [45] from rfl]
    simp only [son_append]
    simp only [son_size]
    rw [List.drop_eq_getElem_cons hj, List.flatMap_cons, ← List.append_assoc]
    cases p with
    | true =>
      rw [if_pos rfl, if_pos z1, if_pos q3, if_pos q4, if_pos q5, if_pos (z2 43), if_pos (z2 45), if_pos z3, Option.bind_some, if_pos (by simp; omega), IH _ (by simp; omega)]
      simp only [sgA, if_true, List.map_cons, List.map_nil, hs0]
      rw [hs 43 (by decide), hs 45 (by decide)]
    | false =>
      rw [if_neg (by simp), if_pos z1, if_pos q3, if_pos q4, if_pos q5, if_pos (z2 42), if_pos (by omega), Option.bind_some, if_pos (z2 43), if_pos (z2 45), if_pos z3, Option.bind_some, if_pos (by simp; omega), IH _ (by simp; omega)]
      simp only [sgA, Bool.false_eq_true, if_false, List.map_cons, List.map_nil, hs0]
      rw [hs 42 (by decide), hs 43 (by decide), hs 45 (by decide), List.append_assoc acc]
      rfl
theorem all_l0 (l : List Int) (hl : digs l) (h7 : l.length ≤ 7) (p : Bool) : ∀ (d i k : Nat), 1 ≤ i → i + d = l.length → 5000 * d < k →
    spec_sgAll.l0 k (strOfNums l) p ((sgD p (i - 1)).map fun g => strOfNums (txt l g)) i = some ((sgD p (l.length - 1)).map fun g => strOfNums (txt l g))
  | 0, i, k, h1, e, hk => by
    obtain ⟨k, rfl⟩ : ∃ j, k = j + 1 := ⟨k - 1, by omega⟩
    rw [spec_sgAll.l0, son_size, if_neg (show ¬ (i : Int) < (l.length : Int) by omega), show i - 1 = l.length - 1 by omega]
  | d + 1, i, k, h1, e, hk => by
    have hm := sgD_most p (d := i - 1) (by omega)
    obtain ⟨k, rfl⟩ : ∃ j, k = (sgD p (i - 1)).length + 1 + j + 1 := ⟨k - 2 - (sgD p (i - 1)).length, by omega⟩
    rw [spec_sgAll.l0, son_size, if_pos (show (i : Int) < (l.length : Int) by omega), List.length_map]
    have := all_l1 l hl h7 p (sgD p (i - 1)) i (by omega) (fun g hg => by rw [sgD_len p _ g hg]; omega) hm (sgD p (i - 1)).length 0 k [] (by omega) (by simp)
    rw [show ((0 : Nat) : Int) = 0 from rfl] at this
    rw [this, List.drop_zero, List.nil_append]
    have e2 : ((sgD p (i - 1)).flatMap fun g => (sgA p).map fun s => strOfNums (txt l (g ++ [s]))) = (sgD p (i + 1 - 1)).map fun g => strOfNums (txt l g) := by
      rw [show i + 1 - 1 = i - 1 + 1 by omega, sgD_end, List.map_flatMap]
      congr 1
      funext g
      rw [List.map_map]
      rfl
    rw [e2]
    exact all_l0 l hl h7 p d (i + 1) k (by omega) (by omega) (by omega)
theorem spec_all (l : List Int) (hl : digs l) (h1 : 1 ≤ l.length) (h7 : l.length ≤ 7) (p : Bool) (k : Nat) (hk : 40000 < k) : spec_sgAll.f k (strOfNums l) p = some ((sgD p (l.length - 1)).map fun g => strOfNums (txt l g)) := by
  unfold spec_sgAll.f
  have := all_l0 l hl h7 p (l.length - 1) 1 k (by omega) (by omega) (by omega)
  rw [if_pos (by omega), son_size, if_pos (by omega), ← this, son_extract]
  congr 1
  simp [sgD, txt, txL]
def mdL (p : Bool) (l : List Int) (x : Int) : List (List Int) := (sgD p (l.length - 1)).filter fun g => valL l g == x
theorem rounds_fold {σ : Type} (g : Int → σ → σ × Bool) (G : σ → Int → σ) (h : ∀ s st, g s st = (G st s, true)) : ∀ (L : List Int) (st : σ), roundsT g L st = (L.foldl G st, true)
  | [], st => rfl
  | s :: L, st => by
    simp only [roundsT, h, if_true, List.foldl_cons]
    exact rounds_fold g G h L _
theorem foldl_flat_ {α β σ : Type} (f : σ → β → σ) (h : α → List β) : ∀ (L : List α) (st : σ), (L.flatMap h).foldl f st = L.foldl (fun st a => (h a).foldl f st) st
  | [], st => rfl
  | a :: L, st => by rw [List.flatMap_cons, List.foldl_append, List.foldl_cons, foldl_flat_ f h L]
theorem dfs_fold {σ : Type} (f : σ → List Int → Int → σ × Bool) (F : σ → List Int → Int → σ) (hf : ∀ st sg v, f st sg v = (F st sg v, true)) (l : List Int) (hb : byts l) : ∀ (d i : Nat) (pre : List Int) (r : Int × Int × Int) (st : σ), i + d = l.length →
    dfsT f (strOfNums l) d i pre r st = ((sgD false d).foldl (fun st g => F st (pre ++ g) (valT (runL g (l.drop i) r))) st, true)
  | 0, i, pre, r, st, e => by
    rw [dfsT, hf, List.drop_of_length_le (by omega)]
    simp [sgD, runL]
  | d + 1, i, pre, r, st, e => by
    have hi : i < l.length := by omega
    rw [dfsT, rounds_fold _ (fun st s => (sgD false d).foldl (fun st g => F st (pre ++ [s] ++ g) (valT (runL g (l.drop (i + 1)) (onT r s (bt (strOfNums l) i))))) st) (fun s st => dfs_fold f F hf l hb d (i + 1) (pre ++ [s]) _ st (by omega))]
    congr 1
    rw [show sgD false (d + 1) = [42, 43, 45, 0].flatMap fun s => (sgD false d).map fun g => s :: g from rfl, foldl_flat_]
    congr 1
    funext st s
    rw [List.foldl_map, List.drop_eq_getElem_cons hi, son_bt l hb i hi]
    congr 1
    funext st g
    rw [runL, List.append_assoc]
    rfl
theorem mdL_most (p : Bool) (l : List Int) (h7 : l.length ≤ 7) (x : Int) : (mdL p l x).length ≤ 4096 := Nat.le_trans (List.length_filter_le _ _) (sgD_most p (by omega))
theorem all_digs (l : List Int) (hb : byts l) (h : allFrom (strOfNums l) l.length 0 = true) : digs l := by
  intro c hc
  obtain ⟨j, hj, rfl⟩ := List.getElem_of_mem hc
  have := allFrom_bt (strOfNums l) l.length 0 h j (Nat.zero_le _) (by omega)
  rw [son_bt l hb j hj] at this
  exact this
theorem as_digs (l : List Int) (hb : byts l) (h : digOk l = true) : digs l ∧ 1 ≤ l.length ∧ l.length ≤ 7 := by
  simp only [digOk, Bool.and_eq_true, decide_eq_true_eq] at h
  exact ⟨all_digs l hb h.2, h.1.1, h.1.2⟩
def askB (l : List Int) (x : Int) : Bool := digOk l && (decide (-100000000 ≤ x) && decide (x ≤ 100000000))
def dgs : Nat → Nat → List Int
  | 0, _ => []
  | d + 1, n => dgs d (n / 10) ++ [48 + ((n % 10 : Nat) : Int)]
theorem dgs_len : ∀ d n, (dgs d n).length = d
  | 0, _ => rfl
  | d + 1, n => by rw [dgs, List.length_append, dgs_len d]; rfl
theorem dgs_digs : ∀ d n, digs (dgs d n)
  | 0, _ => fun c hc => by simp [dgs] at hc
  | d + 1, n => by rw [dgs]; exact digs_append (dgs_digs d _) (digs_one (by omega))
theorem dgs_zero : ∀ d, dgs d 0 = List.replicate d 48
  | 0 => rfl
  | d + 1 => by
    rw [dgs, show 0 / 10 = 0 from rfl, dgs_zero d, List.replicate_succ']
    rfl
def dcL (n : Nat) : List Int := (Lib.decDigits n).map fun b => (b.toNat : Int)
theorem dcL_small {n : Nat} (h : n < 10) : dcL n = [48 + (n : Int)] := by
  unfold dcL
  rw [Lib.decDigits, dif_pos h]
  simp
  omega
theorem dcL_big {n : Nat} (h : ¬ n < 10) : dcL n = dcL (n / 10) ++ [48 + ((n % 10 : Nat) : Int)] := by
  unfold dcL
  rw [Lib.decDigits, dif_neg h, List.map_append]
  congr 1
  simp
  omega
theorem dcL_len (n : Nat) : (dcL n).length = Lib.nDigits n := by rw [dcL, List.length_map, Lib.decDigits_length]
theorem dcL_son (n : Nat) : (⟨(Lib.decDigits n).toArray⟩ : ByteArray) = strOfNums (dcL n) := by
  apply ByteArray.ext
  simp [strOfNums, dcL, Function.comp_def]
theorem itoa_nat {n : Int} (h : 0 ≤ n) : Lib.itoa n = Lib.decDigits n.toNat := by
  unfold Lib.itoa
  rw [if_neg (by omega)]
theorem itoa_len {n : Int} (h : 0 ≤ n) : (Lib.itoa n).length = Lib.nDigits n.toNat := by rw [itoa_nat h, Lib.decDigits_length]
theorem nd_le : ∀ j u, 1 ≤ j → u < 10 ^ j → Lib.nDigits u ≤ j
  | 0, _, h, _ => by omega
  | j + 1, u, _, h => by
    by_cases c : u < 10
    · rw [Lib.nDigits_small c]; omega
    · rw [Nat.pow_succ] at h
      have hj : 1 ≤ j := by
        rcases Nat.eq_zero_or_pos j with rfl | q
        · simp at h; omega
        · exact q
      have := nd_le j (u / 10) hj (by omega)
      rw [Lib.nDigits_big c]; omega
theorem nd_gt (j u : Nat) (h : 10 ^ j ≤ u) : j < Lib.nDigits u := by
  have := Lib.lt_pow_nDigits u
  exact Decidable.byContradiction fun q => by
    have := Nat.pow_le_pow_right (show 0 < 10 by decide) (show Lib.nDigits u ≤ j by omega)
    omega
theorem pad_dgs : ∀ d u, 1 ≤ d → u < 10 ^ d → List.replicate (d - Lib.nDigits u) 48 ++ dcL u = dgs d u
  | 0, _, h, _ => by omega
  | d + 1, u, _, h => by
    rw [dgs]
    by_cases c : u < 10
    · rw [Lib.nDigits_small c, dcL_small c, show u / 10 = 0 by omega, dgs_zero, show u % 10 = u by omega]; rfl
    · rw [Nat.pow_succ] at h
      have hj : 1 ≤ d := by
        rcases Nat.eq_zero_or_pos d with rfl | q
        · simp at h; omega
        · exact q
      rw [Lib.nDigits_big c, dcL_big c, ← pad_dgs d (u / 10) hj (by omega), List.append_assoc, show d + 1 - (Lib.nDigits (u / 10) + 1) = d - Lib.nDigits (u / 10) by omega]
theorem ten_dgs : ∀ d u, u < 10 ^ d → dcL (10 ^ d + u) = 49 :: dgs d u
  | 0, u, h => by
    have : u = 0 := by simp at h; omega
    subst this
    rw [dcL_small (by decide)]; rfl
  | d + 1, u, h => by
    rw [Nat.pow_succ] at h ⊢
    have hp : 1 ≤ 10 ^ d := Nat.one_le_pow _ _ (by decide)
    rw [dcL_big (by omega), show (10 ^ d * 10 + u) / 10 = 10 ^ d + u / 10 by omega, ten_dgs d (u / 10) (by omega), show (10 ^ d * 10 + u) % 10 = u % 10 by omega, dgs, List.cons_append]
theorem spec_l1Num_dc : ∀ (j u k : Nat), 1 ≤ j → j ≤ 18 → u < 10 ^ j → j ≤ k → spec_l1Num.f k (u : Int) = some (strOfNums (dcL u))
  | 0, _, _, h, _, _, _ => by omega
  | j + 1, u, k, _, hj, hu, hk => by
    obtain ⟨k, rfl⟩ : ∃ m, k = m + 1 := ⟨k - 1, by omega⟩
    have hb : u < 10 ^ 18 := Nat.lt_of_lt_of_le hu (Nat.pow_le_pow_right (by decide) hj)
    simp only [spec_l1Num.f]
    by_cases c : u < 10
    · rw [if_pos (show (u : Int) < 10 by omega), wrap_id (by omega) (by omega), show (48 + (u : Int)) % 256 = 48 + (u : Int) by omega, dcL_small c]
    · rw [Nat.pow_succ] at hu
      have hj1 : 1 ≤ j := by
        rcases Nat.eq_zero_or_pos j with rfl | q
        · simp at hu; omega
        · exact q
      have e1 : Int.tdiv (u : Int) 10 = ((u / 10 : Nat) : Int) := rfl
      have e2 : Int.tmod (u : Int) 10 = ((u % 10 : Nat) : Int) := rfl
      rw [if_neg (show ¬ (u : Int) < 10 by omega), e1, wrap_id (x := ((u / 10 : Nat) : Int)) (by omega) (by omega), spec_l1Num_dc j (u / 10) k hj1 (by omega) (by omega) (by omega)]
      simp only [Option.bind_some]
      rw [e2, wrap_id (x := 48 + ((u % 10 : Nat) : Int)) (by omega) (by omega), show (48 + ((u % 10 : Nat) : Int)) % 256 = 48 + ((u % 10 : Nat) : Int) by omega, son_size, son_size, dcL_len]
      have := nd_le j (u / 10) hj1 (by omega)
      rw [if_pos (by simp; omega), son_append, dcL_big c]
theorem repeat_one : ∀ k : Nat, Lib.repeatL [48] k = List.replicate k 48
  | 0 => rfl
  | k + 1 => by rw [Lib.repeatL, repeat_one k]; rfl
theorem padT_dgs (u d : Nat) (h1 : 1 ≤ d) (hu : u < 10 ^ d) : padT (u : Int) (d - (Lib.itoa (u : Int)).length) = strOfNums (dgs d u) := by
  unfold padT itT
  rw [itoa_nat (Int.natCast_nonneg u), Lib.decDigits_length, show ((u : Int)).toNat = u by omega, dcL_son, repeat_one, ← pad_dgs d u h1 hu, ← son_append]
  congr 1
  apply ByteArray.ext
  simp [strOfNums]

theorem rounds_all (g : Int → Unit → Unit × Bool) : ∀ L : List Int, (roundsT g L ()).2 = L.all fun s => (g s ()).2
  | [] => rfl
  | s :: L => by
    rw [roundsT, List.all_cons]
    cases h : (g s ()).2 with
    | true => rw [if_pos rfl, Bool.true_and]; exact rounds_all g L
    | false => simp
theorem dfs_all (x : Int) (l : List Int) (hb : byts l) : ∀ (d i : Nat) (pre : List Int) (r : Int × Int × Int), i + d = l.length →
    (dfsT (tkF x) (strOfNums l) d i pre r ()).2 = (sgD false d).all fun g => valT (runL g (l.drop i) r) != x
  | 0, i, pre, r, e => by
    rw [dfsT, List.drop_of_length_le (by omega)]
    simp [sgD, runL, tkF]
  | d + 1, i, pre, r, e => by
    have hi : i < l.length := by omega
    rw [dfsT, rounds_all, show sgD false (d + 1) = [42, 43, 45, 0].flatMap fun s => (sgD false d).map fun g => s :: g from rfl, List.all_flatMap]
    congr 1
    funext s
    rw [dfs_all x l hb d (i + 1) (pre ++ [s]) _ (by omega), List.all_map, List.drop_eq_getElem_cons hi, son_bt l hb i hi]
    rfl
theorem tkNo_all (x : Int) (l : List Int) (hl : digs l) (h1 : 1 ≤ l.length) : tkNo x (strOfNums l) = (sgD false (l.length - 1)).all fun g => valL l g != x := by
  have e : bt (strOfNums l) 0 = rd l 0 := by
    have := son_bt l (digs_byts hl) 0 h1
    rw [show ((0 : Nat) : Int) = 0 from rfl] at this
    rw [this, show (0 : Int) = ((0 : Nat) : Int) from rfl, rd_get l 0 h1]
  unfold tkNo
  rw [son_size, dfs_all x l (digs_byts hl) (l.length - 1) 1 [] _ (by omega), e]
  rfl
theorem ft_l2 (x x6 x8 : Int) (t : ByteArray) (l : List Int) (hl : digs l) (h1 : 1 ≤ l.length) (h7 : l.length ≤ 7) (gs : List (List Int)) (hg : ∀ g ∈ gs, g.length ≤ 6 ∧ ∀ s ∈ g, s = 42 ∨ s = 43 ∨ s = 45 ∨ s = 0) (hn : gs.length ≤ 4096) : ∀ (d j k : Nat), j + d = gs.length → d + 40 < k →
    spec_FirstTicketFor.l2 k x x6 x8 t (gs.map fun g => strOfNums (txt l g)) (gs.length : Int) (j : Int) = if (gs.drop j).all (fun g => valL l g != x) = true then spec_FirstTicketFor.l1 (k - d - 1) x x6 (wrap64 (x8 + 1)) else some (t, true)
  | 0, j, k, e, hk => by
    obtain ⟨k, rfl⟩ : ∃ m, k = m + 1 := ⟨k - 1, by omega⟩
    rw [spec_FirstTicketFor.l2, if_neg (show ¬ (j : Int) < (gs.length : Int) by omega), List.drop_of_length_le (by omega), List.all_nil, if_pos rfl]
    rfl
  | d + 1, j, k, e, hk => by
    obtain ⟨k, rfl⟩ : ∃ m, k = m + 1 := ⟨k - 1, by omega⟩
    have hj : j < gs.length := by omega
    have h := hg gs[j] (List.getElem_mem hj)
    have er : rdOf ByteArray.empty (gs.map fun g => strOfNums (txt l g)) (j : Int) = strOfNums (txt l gs[j]) := by
      unfold rdOf
      simp [hj]
    rw [spec_FirstTicketFor.l2, if_pos (show (j : Int) < (gs.length : Int) by omega), if_pos (show (0 : Int) ≤ (j : Int) by omega), if_pos (show (j : Int) < ((gs.map fun g => strOfNums (txt l g)).length : Int) by rw [List.length_map]; omega), er, spec_value l hl h1 h7 gs[j] h.2 h.1 k (by omega)]
    simp only [Option.bind_some]
    rw [List.drop_eq_getElem_cons hj, List.all_cons]
    by_cases c : valL l gs[j] = x
    · rw [if_pos c, if_neg (by simp [c])]
    · rw [if_neg c, wrap_id (x := (j : Int) + 1) (by omega) (by omega), show (j : Int) + 1 = ((j + 1 : Nat) : Int) by omega, ft_l2 x x6 x8 t l hl h1 h7 gs hg hn d (j + 1) k (by omega) (by omega)]
      simp [c]
theorem ft_l1 (D : Nat) (hD : 1 ≤ D ∧ D ≤ 4) (x : Int) : ∀ (j n k : Nat), n + j = 10 ^ D → 100 * j + 50000 < k →
    spec_FirstTicketFor.l1 k x ((10 ^ D : Nat) : Int) (n : Int) = some (tkScan x D j n)
  | 0, n, k, e, hk => by
    obtain ⟨k, rfl⟩ : ∃ m, k = m + 1 := ⟨k - 1, by omega⟩
    rw [spec_FirstTicketFor.l1, if_neg (show ¬ (n : Int) < ((10 ^ D : Nat) : Int) by omega)]
    rfl
  | j + 1, n, k, e, hk => by
    obtain ⟨k, rfl⟩ : ∃ m, k = m + 1 := ⟨k - 1, by omega⟩
    have h4 : 10 ^ D ≤ 10000 := Nat.le_trans (Nat.pow_le_pow_right (by decide) hD.2) (by decide)
    have hn : n < 10 ^ D := by omega
    have hl := dgs_digs D n
    have hlen := dgs_len D n
    have hgs : (sgD false (D - 1)).length ≤ 64 := Nat.le_trans (sgD_many false (D - 1)) (Nat.le_trans (Nat.pow_le_pow_right (by decide) (show D - 1 ≤ 3 by omega)) (by decide))
    rw [spec_FirstTicketFor.l1, if_pos (show (n : Int) < ((10 ^ D : Nat) : Int) by omega), wrap_id (x := ((10 ^ D : Nat) : Int) + (n : Int)) (by omega) (by omega), show ((10 ^ D : Nat) : Int) + (n : Int) = ((10 ^ D + n : Nat) : Int) by omega, spec_l1Num_dc 5 (10 ^ D + n) k (by omega) (by omega) (by omega) (by omega), ten_dgs D n hn]
    simp only [Option.bind_some]
    have hex : (strOfNums (49 :: dgs D n)).extract 1 (strOfNums (49 :: dgs D n)).size = strOfNums (dgs D n) := by
      rw [son_size, son_extract, List.take_length]
      rfl
    rw [if_pos (show 1 ≤ ((strOfNums (49 :: dgs D n)).size : Int) by rw [son_size, List.length_cons]; omega), hex, spec_all (dgs D n) hl (by omega) (by omega) false k (by omega), hlen]
    simp only [Option.bind_some]
    have h2 := ft_l2 x ((10 ^ D : Nat) : Int) (n : Int) (strOfNums (dgs D n)) (dgs D n) hl (by omega) (by omega) (sgD false (D - 1)) (fun g hg => ⟨by rw [sgD_len false _ g hg]; omega, sgD_sgn false _ g hg⟩) (by omega) (sgD false (D - 1)).length 0 k (by omega) (by omega)
    rw [List.length_map]
    rw [show (((0 : Nat) : Int)) = 0 from rfl] at h2
    rw [h2, List.drop_zero, tkScan, show tkTx D n = strOfNums (dgs D n) from padT_dgs n D hD.1 hn, tkNo_all x (dgs D n) hl (by omega), hlen]
    by_cases c : ((sgD false (D - 1)).all fun g => valL (dgs D n) g != x) = true
    · rw [if_pos c, if_pos c, wrap_id (x := (n : Int) + 1) (by omega) (by omega), show (n : Int) + 1 = ((n + 1 : Nat) : Int) by omega]
      exact ft_l1 D hD x j (n + 1) _ (by omega) (by omega)
    · rw [if_neg c, if_neg c]
theorem ft_l0 (D : Nat) (hD : D ≤ 4) (x : Int) : ∀ (d i k : Nat), i + d = D → d + 1 < k →
    spec_FirstTicketFor.l0 k (D : Int) x ((10 ^ i : Nat) : Int) (i : Int) = spec_FirstTicketFor.l1 (k - d - 1) x ((10 ^ D : Nat) : Int) 0
  | 0, i, k, e, hk => by
    obtain ⟨k, rfl⟩ : ∃ m, k = m + 1 := ⟨k - 1, by omega⟩
    rw [spec_FirstTicketFor.l0, if_neg (show ¬ (i : Int) < (D : Int) by omega), show i = D by omega]
    rfl
  | d + 1, i, k, e, hk => by
    obtain ⟨k, rfl⟩ : ∃ m, k = m + 1 := ⟨k - 1, by omega⟩
    have h4 : 10 ^ i ≤ 10000 := Nat.le_trans (Nat.pow_le_pow_right (by decide) (show i ≤ 4 by omega)) (by decide)
    have e1 : wrap64 (((10 ^ i : Nat) : Int) * 10) = ((10 ^ (i + 1) : Nat) : Int) := by
      obtain ⟨q, hq⟩ : ∃ q, q = 10 ^ i := ⟨_, rfl⟩
      rw [Nat.pow_succ, ← hq]
      rw [← hq] at h4
      rw [wrap_id (by omega) (by omega)]
      omega
    rw [spec_FirstTicketFor.l0, if_pos (show (i : Int) < (D : Int) by omega), e1, wrap_id (x := (i : Int) + 1) (by omega) (by omega), show (i : Int) + 1 = ((i + 1 : Nat) : Int) by omega, ft_l0 D hD x d (i + 1) k (by omega) (by omega), show k + 1 - (d + 1) - 1 = k - d - 1 by omega]
theorem in_ft (a lo hi : Int) : spec_l1In.f a lo hi = some (decide (lo ≤ a) && decide (a ≤ hi)) := by
  unfold spec_l1In.f
  by_cases h1 : a ≥ lo
  · rw [if_pos h1]; simp; omega
  · rw [if_neg h1]; simp; omega
theorem within_ft (a lo hi : Int) : impl_within.f a lo hi = some (decide (lo ≤ a) && decide (a ≤ hi)) := by
  unfold impl_within.f
  by_cases h1 : lo ≤ a
  · rw [if_pos h1]; simp [h1]
  · rw [if_neg h1]; simp; omega
theorem FnExactFirstTicketFor : laws_FnExactFirstTicketFor.Pure := by
  intro a x _ _
  refine ⟨1060000, ?_⟩
  unfold laws_FnExactFirstTicketFor.f spec_FirstTicketFor.f impl_FirstTicketFor.f
  rw [in_ft, in_ft, within_ft, within_ft]
  simp only [Option.bind_some]
  by_cases g : (decide (1 ≤ a) && decide (a ≤ 4)) = true
  · rw [if_pos g, if_pos g, spec_FirstTicketFor.j0]
    by_cases c : (decide (-100000000 ≤ x) && decide (x ≤ 100000000)) = true
    · rw [c, if_neg (by simp), if_pos rfl]
      have g2 : 1 ≤ a ∧ a ≤ 4 := by simp at g; omega
      obtain ⟨D, rfl⟩ : ∃ D : Nat, a = (D : Int) := ⟨a.toNat, by omega⟩
      have h4 : 10 ^ D ≤ 10000 := Nat.le_trans (Nat.pow_le_pow_right (by decide) (show D ≤ 4 by omega)) (by decide)
      have h0 := ft_l0 D (by omega) x D 0 1059999 (by omega) (by omega)
      have h1 := ft_l1 D (by omega) x (10 ^ D) 0 (1059999 - D - 1) (by omega) (by omega)
      rw [show (((10 ^ 0 : Nat) : Nat) : Int) = 1 from rfl, show (((0 : Nat) : Int)) = 0 from rfl] at h0
      rw [show (((0 : Nat) : Int)) = 0 from rfl] at h1
      rw [h0, h1, if_pos g2, show ((D : Int)).toNat = D by omega]
      simp
    · rw [Bool.not_eq_true] at c
      rw [c, if_pos (by simp), if_neg (by simp)]
      simp
  · rw [if_neg g, if_neg g, spec_FirstTicketFor.j0]
    simp

end Go.Proofs.YtbmekbhfcngfnaaDoor.Pure
