/- For all digits and numbers the program's TicketOfNumber and the reference's answer alike: the plain law, without conditions. -/
import Derived.Test.YtbmekbhfcngfnaaDoorPFnExactTicketOfNumberx1
set_option linter.unusedVariables false
set_option linter.unusedSimpArgs false
namespace Go.Proofs.YtbmekbhfcngfnaaDoor.Pure
open Go.RowKit Go.Proofs.YtbmekbhfcngfnaaDoor.PFnExactTicketOfNumber Go.Proofs.YtbmekbhfcngfnaaDoorW.PrintWords Go.Proofs.YtbmekbhfcngfnaaDoorW.PrintLast Go.Proofs.YtbmekbhfcngfnaaDoorW.PrintMore

theorem wrap_id {x : Int} (h0 : -9223372036854775808 ≤ x) (h1 : x < 9223372036854775808) : wrap64 x = x := by
  unfold wrap64
  omega
theorem lit_wf {x : Int} (h : (Lit.int .i64 x).wf = true) : -9223372036854775808 ≤ x ∧ x < 9223372036854775808 := by
  have h2 := h
  simp [Lit.wf, IntKind.min, IntKind.max, IntKind.bits, IntKind.signed] at h2
  omega
theorem wrap_add (x y : Int) : wrap64 (wrap64 x + y) = wrap64 (x + y) := by
  have e : ∀ (m c : Int), ((x + c) % m - c + y + c) % m = (x + y + c) % m := fun m c => by
    have h1 : (x + c) % m - c + y + c = (x + c) % m + y := by generalize (x + c) % m = q; omega
    rw [h1, Int.emod_add_emod, show x + c + y = x + y + c by omega]
  unfold wrap64
  rw [e]
theorem wrap_sub (x y : Int) : wrap64 (wrap64 x - y) = wrap64 (x - y) := by
  rw [Int.sub_eq_add_neg, wrap_add, Int.sub_eq_add_neg]

theorem son_size (l : List Int) : (strOfNums l).size = l.length := by simp [strOfNums, ByteArray.size]
theorem son_nil : (⟨#[]⟩ : ByteArray) = strOfNums [] := rfl
theorem son_append (l m : List Int) : strOfNums l ++ strOfNums m = strOfNums (l ++ m) := by
  apply ByteArray.ext
  simp [strOfNums]
theorem son_extract (l : List Int) (i j : Nat) : (strOfNums l).extract i j = strOfNums ((l.take j).drop i) := by
  apply ByteArray.ext
  rw [ByteArray.data_extract]
  apply Array.ext'
  simp [strOfNums, Array.toList_extract, List.extract, List.map_take, List.map_drop, List.drop_take]
def byts (l : List Int) : Prop := ∀ c ∈ l, 0 ≤ c ∧ c < 256
theorem son_bt (l : List Int) (h : byts l) (i : Nat) (hi : i < l.length) : bt (strOfNums l) i = l[i] := by
  unfold bt
  have h1 : (i : Int).toNat < (strOfNums l).size := by rw [son_size]; simpa using hi
  rw [dif_pos h1]
  have h2 := h l[i] (List.getElem_mem hi)
  have h3 : ((strOfNums l)[(i : Int).toNat]'h1) = UInt8.ofNat (l[i]).toNat := by
    show (strOfNums l).data[(i : Int).toNat] = _
    simp [strOfNums]
  rw [h3]
  simp
  omega
theorem bytesOf_byts (s : ByteArray) : byts (bytesOf s) := by
  intro c hc
  simp only [bytesOf, List.mem_map] at hc
  obtain ⟨b, _, rfl⟩ := hc
  have := b.toNat_lt
  omega
theorem son_bytesOf (s : ByteArray) : strOfNums (bytesOf s) = s := by
  apply ByteArray.ext
  apply Array.ext'
  simp [strOfNums, bytesOf, Function.comp_def]
def digs (l : List Int) : Prop := ∀ c ∈ l, 48 ≤ c ∧ c ≤ 57
theorem digs_byts {l : List Int} (h : digs l) : byts l := fun c hc => by have := h c hc; omega
theorem digs_append {l m : List Int} (h : digs l) (k : digs m) : digs (l ++ m) := fun c hc => by
  rcases List.mem_append.mp hc with hc | hc
  · exact h c hc
  · exact k c hc
theorem digs_one {c : Int} (h : 48 ≤ c ∧ c ≤ 57) : digs [c] := fun x hx => by simp at hx; subst hx; exact h
theorem digs_take {l : List Int} (h : digs l) (n : Nat) : digs (l.take n) := fun c hc => h c (List.mem_of_mem_take hc)
theorem digs_drop {l : List Int} (h : digs l) (n : Nat) : digs (l.drop n) := fun c hc => h c (List.mem_of_mem_drop hc)
def sN : List Int → Int
  | [] => 0
  | c :: l => (c - 48) + sN l
theorem sN_append (l m : List Int) : sN (l ++ m) = sN l + sN m := by
  induction l with
  | nil => simp [sN]
  | cons c l ih => simp [sN, ih]; omega
theorem sN_range (l : List Int) (h : digs l) : 0 ≤ sN l ∧ sN l ≤ 9 * l.length := by
  induction l with
  | nil => simp [sN]
  | cons c l ih =>
    have h1 := h c (by simp)
    have h2 := ih (fun x hx => h x (by simp [hx]))
    simp [sN]; omega

def sizeB (n : Int) : Bool := decide (2 ≤ n) && decide (n ≤ 12) && (Int.tmod n 2 == 0)
theorem sizeB_half {n : Int} (h : sizeB n = true) : ∃ m : Nat, 1 ≤ m ∧ m < 7 ∧ n = 2 * (m : Int) ∧ wrap64 (Int.tdiv n 2) = (m : Int) := by
  simp [sizeB] at h
  obtain ⟨⟨h1, h2⟩, h3⟩ := h
  rw [Int.tmod_eq_emod_of_nonneg (by omega)] at h3
  refine ⟨(n / 2).toNat, by omega, by omega, by omega, ?_⟩
  rw [Int.tdiv_eq_ediv_of_nonneg (by omega)]
  unfold wrap64
  omega
theorem spec_sizeB (n : Int) : spec_tkSize.f n = some (sizeB n) := by
  unfold spec_tkSize.f spec_l1In.f sizeB
  by_cases h1 : n ≥ 2
  · rw [if_pos h1]; simp only [Option.bind_some]
    by_cases h2 : n ≤ 12 <;> simp [h1, h2]
  · rw [if_neg h1]; simp; omega
theorem impl_sizeB (n : Int) : impl_isSize.f n = some (sizeB n) := by
  unfold impl_isSize.f impl_within.f sizeB
  by_cases h1 : 2 ≤ n
  · rw [if_pos h1]; simp only [Option.bind_some]
    by_cases h2 : n ≤ 12 <;> simp [h1, h2]
  · rw [if_neg h1]; simp; omega

def dgs : Nat → Nat → List Int
  | 0, _ => []
  | d + 1, n => dgs d (n / 10) ++ [48 + ((n % 10 : Nat) : Int)]
theorem dgs_len : ∀ d n, (dgs d n).length = d
  | 0, _ => rfl
  | d + 1, n => by rw [dgs, List.length_append, dgs_len d]; rfl
theorem dgs_digs : ∀ d n, digs (dgs d n)
  | 0, _ => fun c hc => by simp [dgs] at hc
  | d + 1, n => by rw [dgs]; exact digs_append (dgs_digs d _) (digs_one (by omega))
theorem dgs_zero : ∀ d, dgs d 0 = List.replicate d 48
  | 0 => rfl
  | d + 1 => by
    rw [dgs, show 0 / 10 = 0 from rfl, dgs_zero d, List.replicate_succ']
    rfl
def dcL (n : Nat) : List Int := (Lib.decDigits n).map fun b => (b.toNat : Int)
theorem dcL_small {n : Nat} (h : n < 10) : dcL n = [48 + (n : Int)] := by
  unfold dcL
  rw [Lib.decDigits, dif_pos h]
  simp
  omega
theorem dcL_big {n : Nat} (h : ¬ n < 10) : dcL n = dcL (n / 10) ++ [48 + ((n % 10 : Nat) : Int)] := by
  unfold dcL
  rw [Lib.decDigits, dif_neg h, List.map_append]
  congr 1
  simp
  omega
theorem dcL_len (n : Nat) : (dcL n).length = Lib.nDigits n := by rw [dcL, List.length_map, Lib.decDigits_length]
theorem dcL_son (n : Nat) : (⟨(Lib.decDigits n).toArray⟩ : ByteArray) = strOfNums (dcL n) := by
  apply ByteArray.ext
  simp [strOfNums, dcL, Function.comp_def]
theorem itoa_nat {n : Int} (h : 0 ≤ n) : Lib.itoa n = Lib.decDigits n.toNat := by
  unfold Lib.itoa
  rw [if_neg (by omega)]
theorem itoa_len {n : Int} (h : 0 ≤ n) : (Lib.itoa n).length = Lib.nDigits n.toNat := by rw [itoa_nat h, Lib.decDigits_length]
theorem nd_le : ∀ j u, 1 ≤ j → u < 10 ^ j → Lib.nDigits u ≤ j
  | 0, _, h, _ => by omega
  | j + 1, u, _, h => by
    by_cases c : u < 10
    · rw [Lib.nDigits_small c]; omega
    · rw [Nat.pow_succ] at h
      have hj : 1 ≤ j := by
        rcases Nat.eq_zero_or_pos j with rfl | q
        · simp at h; omega
        · exact q
      have := nd_le j (u / 10) hj (by omega)
      rw [Lib.nDigits_big c]; omega
theorem nd_gt (j u : Nat) (h : 10 ^ j ≤ u) : j < Lib.nDigits u := by
  have := Lib.lt_pow_nDigits u
  exact Decidable.byContradiction fun q => by
    have := Nat.pow_le_pow_right (show 0 < 10 by decide) (show Lib.nDigits u ≤ j by omega)
    omega
theorem pad_dgs : ∀ d u, 1 ≤ d → u < 10 ^ d → List.replicate (d - Lib.nDigits u) 48 ++ dcL u = dgs d u
  | 0, _, h, _ => by omega
  | d + 1, u, _, h => by
    rw [dgs]
    by_cases c : u < 10
    · rw [Lib.nDigits_small c, dcL_small c, show u / 10 = 0 by omega, dgs_zero, show u % 10 = u by omega]; rfl
    · rw [Nat.pow_succ] at h
      have hj : 1 ≤ d := by
        rcases Nat.eq_zero_or_pos d with rfl | q
        · simp at h; omega
        · exact q
      rw [Lib.nDigits_big c, dcL_big c, ← pad_dgs d (u / 10) hj (by omega), List.append_assoc, show d + 1 - (Lib.nDigits (u / 10) + 1) = d - Lib.nDigits (u / 10) by omega]
theorem ten_dgs : ∀ d u, u < 10 ^ d → dcL (10 ^ d + u) = 49 :: dgs d u
  | 0, u, h => by
    have : u = 0 := by simp at h; omega
    subst this
    rw [dcL_small (by decide)]; rfl
  | d + 1, u, h => by
    rw [Nat.pow_succ] at h ⊢
    have hp : 1 ≤ 10 ^ d := Nat.one_le_pow _ _ (by decide)
    rw [dcL_big (by omega), show (10 ^ d * 10 + u) / 10 = 10 ^ d + u / 10 by omega, ten_dgs d (u / 10) (by omega), show (10 ^ d * 10 + u) % 10 = u % 10 by omega, dgs, List.cons_append]
theorem spec_l1Num_dc : ∀ (j u k : Nat), 1 ≤ j → j ≤ 18 → u < 10 ^ j → j ≤ k → spec_l1Num.f k (u : Int) = some (strOfNums (dcL u))
  | 0, _, _, h, _, _, _ => by omega
  | j + 1, u, k, _, hj, hu, hk => by
    obtain ⟨k, rfl⟩ : ∃ m, k = m + 1 := ⟨k - 1, by omega⟩
    have hb : u < 10 ^ 18 := Nat.lt_of_lt_of_le hu (Nat.pow_le_pow_right (by decide) hj)
    simp only [spec_l1Num.f]
    by_cases c : u < 10
    · rw [if_pos (show (u : Int) < 10 by omega), wrap_id (by omega) (by omega), show (48 + (u : Int)) % 256 = 48 + (u : Int) by omega, dcL_small c]
    · rw [Nat.pow_succ] at hu
      have hj1 : 1 ≤ j := by
        rcases Nat.eq_zero_or_pos j with rfl | q
        · simp at hu; omega
        · exact q
      have e1 : Int.tdiv (u : Int) 10 = ((u / 10 : Nat) : Int) := rfl
      have e2 : Int.tmod (u : Int) 10 = ((u % 10 : Nat) : Int) := rfl
      rw [if_neg (show ¬ (u : Int) < 10 by omega), e1, wrap_id (x := ((u / 10 : Nat) : Int)) (by omega) (by omega), spec_l1Num_dc j (u / 10) k hj1 (by omega) (by omega) (by omega)]
      simp only [Option.bind_some]
      rw [e2, wrap_id (x := 48 + ((u % 10 : Nat) : Int)) (by omega) (by omega), show (48 + ((u % 10 : Nat) : Int)) % 256 = 48 + ((u % 10 : Nat) : Int) by omega, son_size, son_size, dcL_len]
      have := nd_le j (u / 10) hj1 (by omega)
      rw [if_pos (by simp; omega), son_append, dcL_big c]
theorem repeat_one : ∀ k : Nat, Lib.repeatL [48] k = List.replicate k 48
  | 0 => rfl
  | k + 1 => by rw [Lib.repeatL, repeat_one k]; rfl
theorem padT_dgs (u d : Nat) (h1 : 1 ≤ d) (hu : u < 10 ^ d) : padT (u : Int) (d - (Lib.itoa (u : Int)).length) = strOfNums (dgs d u) := by
  unfold padT itT
  rw [itoa_nat (Int.natCast_nonneg u), Lib.decDigits_length, show ((u : Int)).toNat = u by omega, dcL_son, repeat_one, ← pad_dgs d u h1 hu, ← son_append]
  congr 1
  apply ByteArray.ext
  simp [strOfNums]

theorem spec_ticket_l0 (D : Nat) (hD : D ≤ 12) : ∀ (d x : Nat) (o : List Int) (k : Nat), o.length + d = D → x ≤ 9223372036854775807 → d + 3 ≤ k →
    spec_TicketOfNumber.l0 k (D : Int) (x : Int) (strOfNums o) (o.length : Int) = some (if 0 < x / 10 ^ d then ((⟨#[]⟩ : ByteArray), false) else (strOfNums (dgs d x ++ o), true))
  | 0, x, o, k, e, hx, hk => by
    obtain ⟨k, rfl⟩ : ∃ m, k = m + 1 := ⟨k - 1, by omega⟩
    rw [spec_TicketOfNumber.l0, if_neg (show ¬ (o.length : Int) < (D : Int) by omega), Nat.pow_zero, Nat.div_one]
    by_cases c : 0 < x
    · rw [if_pos (show (x : Int) > 0 by omega), if_pos c]
    · rw [if_neg (show ¬ (x : Int) > 0 by omega), if_neg c]; rfl
  | d + 1, x, o, k, e, hx, hk => by
    obtain ⟨k, rfl⟩ : ∃ m, k = m + 1 := ⟨k - 1, by omega⟩
    have e1 : Int.tmod (x : Int) 10 = ((x % 10 : Nat) : Int) := rfl
    have e2 : Int.tdiv (x : Int) 10 = ((x / 10 : Nat) : Int) := rfl
    have e3 : wrap64 ((o.length : Int) + 1) = (([48 + ((x % 10 : Nat) : Int)] ++ o).length : Int) := by
      rw [wrap_id (by omega) (by omega), List.length_append, List.length_singleton]; omega
    have ih := spec_ticket_l0 D hD d (x / 10) ([48 + ((x % 10 : Nat) : Int)] ++ o) k (by rw [List.length_append, List.length_singleton]; omega) (by omega) (by omega)
    rw [spec_TicketOfNumber.l0, if_pos (show (o.length : Int) < (D : Int) by omega), e1, spec_l1Num_dc 1 (x % 10) k (by omega) (by omega) (by omega) (by omega)]
    simp only [Option.bind_some]
    rw [dcL_small (show x % 10 < 10 by omega), son_size, son_size, if_pos (by rw [List.length_singleton]; omega), e2, wrap_id (x := ((x / 10 : Nat) : Int)) (by omega) (by omega), son_append, e3, ih, Nat.pow_succ', ← Nat.div_div_eq_div_mul, dgs, List.append_assoc]
theorem FnExactTicketOfNumber : laws_FnExactTicketOfNumber.Pure := by
  intro a n ha hn
  have hn' := lit_wf hn
  refine ⟨60, ?_⟩
  unfold laws_FnExactTicketOfNumber.f spec_TicketOfNumber.f impl_TicketOfNumber.f
  rw [spec_sizeB, impl_sizeB]
  simp only [Option.bind_some]
  by_cases g : sizeB a = true
  · rw [if_pos g, if_pos g, spec_TicketOfNumber.j0]
    have g2 : 2 ≤ a ∧ a ≤ 12 := by simp [sizeB] at g; omega
    by_cases c : n < 0
    · rw [if_pos (decide_eq_true c), if_pos c]
      simp
    · rw [if_neg (by simpa using c), if_neg c, if_pos (by omega)]
      obtain ⟨D, rfl⟩ : ∃ D : Nat, a = (D : Int) := ⟨a.toNat, by omega⟩
      obtain ⟨x, rfl⟩ : ∃ x : Nat, n = (x : Int) := ⟨n.toNat, by omega⟩
      have hl := spec_ticket_l0 D (by omega) D x [] 59 (by simp) (by omega) (by omega)
      rw [show ((([] : List Int).length : Nat) : Int) = 0 from rfl, ← son_nil] at hl
      rw [hl, itoa_len (Int.natCast_nonneg x), show ((x : Int)).toNat = x by omega]
      simp only [Option.bind_some]
      by_cases q : x < 10 ^ D
      · have h1 := nd_le D x (by omega) q
        have h2 : x / 10 ^ D = 0 := Nat.div_eq_of_lt q
        have h3 : 10 ^ D ≤ 10 ^ 12 := Nat.pow_le_pow_right (by decide) (by omega)
        have h4 := padT_dgs x D (by omega) q
        rw [itoa_len (Int.natCast_nonneg x), show ((x : Int)).toNat = x by omega] at h4
        rw [h2, if_neg (show ¬ 0 < 0 by omega), if_neg (show ¬ ((Lib.nDigits x : Nat) : Int) > ((D : Nat) : Int) by omega), if_pos (show ((D : Nat) : Int) ≤ 12 ∧ ((x : Nat) : Int) ≤ 1000000000000 from ⟨by omega, by omega⟩), show ((D : Int)).toNat = D by omega, h4, List.append_nil]
        simp
      · have h1 := nd_gt D x (by omega)
        have h2 : 0 < x / 10 ^ D := Nat.div_pos (by omega) (Nat.pow_pos (by decide))
        rw [if_pos h2, if_pos (show ((Lib.nDigits x : Nat) : Int) > ((D : Nat) : Int) by omega)]
        simp
  · rw [if_neg g, if_neg g, spec_TicketOfNumber.j0]
    simp

end Go.Proofs.YtbmekbhfcngfnaaDoor.Pure
