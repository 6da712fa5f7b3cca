/- For every text the program's PatternOf and the reference's answer alike: the plain law, without conditions. -/
import Derived.Test.YteikimciamlfbaaPFnExactPatternOfx1
set_option linter.unusedVariables false
set_option linter.unusedSimpArgs false
namespace Go.Proofs.Yteikimciamlfbaa.Pure
open Go.RowKit Go.Proofs.Yteikimciamlfbaa.PFnExactPatternOf Go.Proofs.YteikimciamlfbaaW.PrintWords Go.Proofs.YteikimciamlfbaaW.PrintLast Go.Proofs.YteikimciamlfbaaW.PrintMore

theorem wrap_id {x : Int} (h0 : -9223372036854775808 ≤ x) (h1 : x < 9223372036854775808) : wrap64 x = x := by
  unfold wrap64
  omega
theorem lit_wf {x : Int} (h : (Lit.int .i64 x).wf = true) : -9223372036854775808 ≤ x ∧ x < 9223372036854775808 := by
  have h2 := h
  simp [Lit.wf, IntKind.min, IntKind.max, IntKind.bits, IntKind.signed] at h2
  omega
theorem wrap_add (x y : Int) : wrap64 (wrap64 x + y) = wrap64 (x + y) := by
  have e : ∀ (m c : Int), ((x + c) % m - c + y + c) % m = (x + y + c) % m := fun m c => by
    have h1 : (x + c) % m - c + y + c = (x + c) % m + y := by generalize (x + c) % m = q; omega
    rw [h1, Int.emod_add_emod, show x + c + y = x + y + c by omega]
  unfold wrap64
  rw [e]
theorem wrap_sub (x y : Int) : wrap64 (wrap64 x - y) = wrap64 (x - y) := by
  rw [Int.sub_eq_add_neg, wrap_add, Int.sub_eq_add_neg]

theorem son_size (l : List Int) : (strOfNums l).size = l.length := by simp [strOfNums, ByteArray.size]
theorem son_nil : (⟨#[]⟩ : ByteArray) = strOfNums [] := rfl
theorem son_append (l m : List Int) : strOfNums l ++ strOfNums m = strOfNums (l ++ m) := by
  apply ByteArray.ext
  simp [strOfNums]
theorem son_extract (l : List Int) (i j : Nat) : (strOfNums l).extract i j = strOfNums ((l.take j).drop i) := by
  apply ByteArray.ext
  rw [ByteArray.data_extract]
  apply Array.ext'
  simp [strOfNums, Array.toList_extract, List.extract, List.map_take, List.map_drop, List.drop_take]
def byts (l : List Int) : Prop := ∀ c ∈ l, 0 ≤ c ∧ c < 256
theorem son_bt (l : List Int) (h : byts l) (i : Nat) (hi : i < l.length) : bt (strOfNums l) i = l[i] := by
  unfold bt
  have h1 : (i : Int).toNat < (strOfNums l).size := by rw [son_size]; simpa using hi
  rw [dif_pos h1]
  have h2 := h l[i] (List.getElem_mem hi)
  have h3 : ((strOfNums l)[(i : Int).toNat]'h1) = UInt8.ofNat (l[i]).toNat := by
    show (strOfNums l).data[(i : Int).toNat] = _
    simp [strOfNums]
  rw [h3]
  simp
  omega
theorem bytesOf_byts (s : ByteArray) : byts (bytesOf s) := by
  intro c hc
  simp only [bytesOf, List.mem_map] at hc
  obtain ⟨b, _, rfl⟩ := hc
  have := b.toNat_lt
  omega
theorem son_bytesOf (s : ByteArray) : strOfNums (bytesOf s) = s := by
  apply ByteArray.ext
  apply Array.ext'
  simp [strOfNums, bytesOf, Function.comp_def]
def digs (l : List Int) : Prop := ∀ c ∈ l, 48 ≤ c ∧ c ≤ 57
theorem digs_byts {l : List Int} (h : digs l) : byts l := fun c hc => by have := h c hc; omega
theorem digs_append {l m : List Int} (h : digs l) (k : digs m) : digs (l ++ m) := fun c hc => by
  rcases List.mem_append.mp hc with hc | hc
  · exact h c hc
  · exact k c hc
theorem digs_one {c : Int} (h : 48 ≤ c ∧ c ≤ 57) : digs [c] := fun x hx => by simp at hx; subst hx; exact h
theorem digs_take {l : List Int} (h : digs l) (n : Nat) : digs (l.take n) := fun c hc => h c (List.mem_of_mem_take hc)
theorem digs_drop {l : List Int} (h : digs l) (n : Nat) : digs (l.drop n) := fun c hc => h c (List.mem_of_mem_drop hc)
def sN : List Int → Int
  | [] => 0
  | c :: l => (c - 48) + sN l
theorem sN_append (l m : List Int) : sN (l ++ m) = sN l + sN m := by
  induction l with
  | nil => simp [sN]
  | cons c l ih => simp [sN, ih]; omega
theorem sN_range (l : List Int) (h : digs l) : 0 ≤ sN l ∧ sN l ≤ 9 * l.length := by
  induction l with
  | nil => simp [sN]
  | cons c l ih =>
    have h1 := h c (by simp)
    have h2 := ih (fun x hx => h x (by simp [hx]))
    simp [sN]; omega

def sgnB (c : Int) : Bool := (decide (65 ≤ c) && decide (c ≤ 90)) || (decide (48 ≤ c) && decide (c ≤ 57))
def allS (s : ByteArray) : Nat → Nat → Bool
  | 0, _ => true
  | d + 1, i => sgnB (bt s i) && allS s d (i + 1)
theorem allS_bt (s : ByteArray) : ∀ (d i : Nat), allS s d i = true → ∀ j : Nat, i ≤ j → j < i + d → sgnB (bt s j) = true
  | 0, i, _, j, h1, h2 => by omega
  | d + 1, i, h, j, h1, h2 => by
    simp only [allS, Bool.and_eq_true] at h
    by_cases e : j = i
    · subst e; exact h.1
    · exact allS_bt s d (i + 1) h.2 j (by omega) (by omega)
def signsB (s : ByteArray) (lo hi : Int) : Bool := decide (lo ≤ s.size) && decide ((s.size : Int) ≤ hi) && allS s s.size 0
theorem spec_sign (c : Int) : spec_plSign.f c = some (sgnB c) := by
  unfold spec_plSign.f sgnB
  by_cases h1 : c ≥ 65
  · have a1 : 65 ≤ c := h1
    rw [if_pos h1]
    by_cases h2 : c ≤ 90
    · rw [if_pos h2]; simp [a1, h2]
    · have a2 : ¬ c ≤ 57 := by omega
      rw [if_neg h2, if_pos (by omega)]; simp [h2, a2]
  · have a1 : ¬ 65 ≤ c := h1
    rw [if_neg h1]
    by_cases h3 : c ≥ 48
    · have a3 : 48 ≤ c := h3
      rw [if_pos h3]; simp [a1, a3]
    · have a3 : ¬ 48 ≤ c := h3
      rw [if_neg h3]; simp [a1, a3]
theorem spec_signs_l0 (s : ByteArray) (hn : s.size ≤ 1048576) : ∀ (d i k : Nat), i + d = s.size → d < k → spec_plSigns.l0 k s i = some (allS s d i)
  | 0, i, k, h, hk => by
    obtain ⟨k, rfl⟩ : ∃ m, k = m + 1 := ⟨k - 1, by omega⟩
    simp only [spec_plSigns.l0, allS]
    rw [if_neg (by omega)]
  | d + 1, i, k, h, hk => by
    obtain ⟨k, rfl⟩ : ∃ m, k = m + 1 := ⟨k - 1, by omega⟩
    simp only [spec_plSigns.l0, allS]
    rw [if_pos (by omega), if_pos (by omega), spec_sign]
    simp only [Option.bind_some]
    by_cases c : sgnB (bt s i) = true
    · rw [if_pos c, c, Bool.true_and, wrap_id (by omega) (by omega)]
      exact spec_signs_l0 s hn d (i + 1) k (by omega) (by omega)
    · rw [if_neg c]
      simp only [Bool.not_eq_true] at c
      rw [c]; rfl
theorem spec_signs (s : ByteArray) (lo hi : Int) (hn : s.size ≤ 1048576) (k : Nat) (hk : s.size < k) : spec_plSigns.f k s lo hi = some (signsB s lo hi) := by
  unfold spec_plSigns.f spec_l1In.f signsB
  by_cases h1 : (s.size : Int) ≥ lo
  · rw [if_pos h1]; simp only [Option.bind_some]
    by_cases h2 : (s.size : Int) ≤ hi
    · rw [if_pos (by simpa using h2)]
      have := spec_signs_l0 s hn s.size 0 k (by omega) hk
      rw [show ((0 : Nat) : Int) = 0 from rfl] at this
      rw [this]
      simp [h1, h2]
    · rw [if_neg (by simpa using h2)]
      simp [h2]
  · rw [if_neg h1]; simp only [Option.bind_some]
    rw [if_neg (by simp)]
    simp [h1]
theorem impl_letter (c : Int) : impl_isLetter.f c = some (decide (65 ≤ c) && decide (c ≤ 90)) := by
  unfold impl_isLetter.f
  by_cases h : c ≥ 65
  · rw [if_pos h]; simp [h]
  · rw [if_neg h]; simp; omega
theorem impl_signs_l0 (s : ByteArray) (lo hi : Int) (hn : s.size ≤ 1048576) : ∀ (d i k : Nat), i + d = s.size → d < k →
    impl_areSigns.l0 k s lo hi s.size i = some (allS s d i && (decide (lo ≤ s.size) && decide ((s.size : Int) ≤ hi)))
  | 0, i, k, h, hk => by
    obtain ⟨k, rfl⟩ : ∃ m, k = m + 1 := ⟨k - 1, by omega⟩
    simp only [impl_areSigns.l0, allS]
    rw [if_neg (by omega)]
    unfold impl_within.f
    by_cases c : lo ≤ (s.size : Int)
    · rw [if_pos c]; simp [c]
    · rw [if_neg c]; simp [c]
  | d + 1, i, k, h, hk => by
    obtain ⟨k, rfl⟩ : ∃ m, k = m + 1 := ⟨k - 1, by omega⟩
    simp only [impl_areSigns.l0, allS]
    rw [if_pos (by omega), if_pos (by omega), if_pos (by omega), impl_letter]
    simp only [Option.bind_some]
    rw [wrap_id (by omega) (by omega)]
    have ih := impl_signs_l0 s lo hi hn d (i + 1) k (by omega) (by omega)
    by_cases c : 65 ≤ bt s i ∧ bt s i ≤ 90
    · rw [if_pos (by simp [c.1, c.2])]
      rw [show ((i : Int) + 1) = ((i + 1 : Nat) : Int) by omega, ih]
      simp [sgnB, c.1, c.2]
    · rw [if_neg (by simpa using c)]
      by_cases c1 : bt s i < 48
      · rw [if_pos c1]
        congr 1
        have : sgnB (bt s i) = false := by simp [sgnB]; omega
        rw [this]; rfl
      · rw [if_neg c1]
        by_cases c2 : bt s i > 57
        · rw [if_pos c2]
          congr 1
          have : sgnB (bt s i) = false := by simp [sgnB]; omega
          rw [this]; rfl
        · rw [if_neg c2, show ((i : Int) + 1) = ((i + 1 : Nat) : Int) by omega, ih]
          have : sgnB (bt s i) = true := by simp [sgnB]; omega
          rw [this]; rfl
theorem impl_signs (s : ByteArray) (lo hi : Int) (hn : s.size ≤ 1048576) (k : Nat) (hk : s.size < k) : impl_areSigns.f k s lo hi = some (signsB s lo hi) := by
  unfold impl_areSigns.f signsB
  have := impl_signs_l0 s lo hi hn s.size 0 k (by omega) hk
  rw [show ((0 : Nat) : Int) = 0 from rfl] at this
  rw [this, Bool.and_comm]

theorem patL_map : ∀ (rest pre : List Int), patL rest.length pre.length (pre ++ rest) = pre ++ rest.map patC
  | [], pre => by simp [patL]
  | c :: rest, pre => by
    have e : rd (pre ++ c :: rest) (pre.length : Int) = c := by simp [rd]
    simp only [List.length_cons, patL]
    rw [e]
    have e2 : (pre ++ c :: rest).set pre.length (patC c) = (pre ++ [patC c]) ++ rest := by simp
    have := patL_map rest (pre ++ [patC c])
    rw [e2]
    simp only [List.length_append, List.length_cons, List.length_nil] at this
    rw [this]
    simp
theorem spec_pat_l0 (s : ByteArray) (hs : s.size ≤ 12) (ha : ∀ j : Nat, j < s.size → sgnB (bt s j) = true) : ∀ (d i k : Nat) (a : List Int), i + d = s.size → a.length = i → d < k →
    spec_PatternOf.l0 k s (strOfNums a) i = some (strOfNums (a ++ ((bytesOf s).drop i).map patC), true)
  | 0, i, k, a, e, h, hk => by
    obtain ⟨k, rfl⟩ : ∃ m, k = m + 1 := ⟨k - 1, by omega⟩
    have hb := bytesOf_length s
    simp only [spec_PatternOf.l0]
    rw [if_neg (by omega), List.drop_of_length_le (by omega)]
    simp
  | d + 1, i, k, a, e, h, hk => by
    obtain ⟨k, rfl⟩ : ∃ m, k = m + 1 := ⟨k - 1, by omega⟩
    have hb := bytesOf_length s
    have hi : i < (bytesOf s).length := by omega
    have hc : bt s (i : Int) = (bytesOf s)[i] := by rw [← rd_bytesOf]; simp [rd, hi]
    have hg := ha i (by omega)
    simp only [spec_PatternOf.l0]
    rw [if_pos (by omega), if_pos (by omega), wrap_id (by omega) (by omega), hc]
    rw [hc] at hg
    have e0 : (bytesOf s).drop i = (bytesOf s)[i] :: (bytesOf s).drop (i + 1) := List.drop_eq_getElem_cons hi
    rw [e0]
    by_cases c : (bytesOf s)[i] ≥ 65
    · have ep : patC (bytesOf s)[i] = 76 := by
        unfold patC
        rw [if_pos]
        simp [sgnB] at hg
        omega
      have := spec_pat_l0 s hs ha d (i + 1) k (a ++ [76]) (by omega) (by simp; omega) (by omega)
      rw [if_pos c, if_pos (by rw [son_size]; omega), show (⟨#[76]⟩ : ByteArray) = strOfNums [76] from rfl, son_append, show ((i : Int) + 1) = ((i + 1 : Nat) : Int) by omega, this]
      rw [List.map_cons, ep, List.append_assoc]
      rfl
    · have ep : patC (bytesOf s)[i] = 68 := by
        unfold patC
        rw [if_neg (by omega)]
      have := spec_pat_l0 s hs ha d (i + 1) k (a ++ [68]) (by omega) (by simp; omega) (by omega)
      rw [if_neg c, if_pos (by rw [son_size]; omega), show (⟨#[68]⟩ : ByteArray) = strOfNums [68] from rfl, son_append, show ((i : Int) + 1) = ((i + 1 : Nat) : Int) by omega, this]
      rw [List.map_cons, ep, List.append_assoc]
      rfl
theorem FnExactPatternOf : laws_FnExactPatternOf.Pure := by
  intro s hs
  by_cases hz : (s.size : Int) > 1048576
  · refine ⟨0, ?_⟩
    unfold laws_FnExactPatternOf.f
    rw [if_pos hz]
  · refine ⟨s.size + 100, ?_⟩
    unfold laws_FnExactPatternOf.f
    rw [if_neg hz]
    unfold spec_PatternOf.f impl_PatternOf.f
    rw [spec_signs s 1 8 (by omega) _ (by omega), impl_signs s 1 8 (by omega) _ (by omega)]
    simp only [Option.bind_some]
    by_cases g : signsB s 1 8 = true
    · rw [if_pos g, if_pos g, if_pos (by omega)]
      simp only [signsB, Bool.and_eq_true, decide_eq_true_eq] at g
      have ha := fun j (hj : j < s.size) => allS_bt s s.size 0 g.2 j (by omega) (by omega)
      have hp := patL_map (bytesOf s) []
      have hb := bytesOf_length s
      simp only [List.nil_append, List.length_nil] at hp
      rw [hb] at hp
      have := spec_pat_l0 s (by omega) ha s.size 0 (s.size + 100) [] (by omega) rfl (by omega)
      rw [List.drop_zero, List.nil_append] at this
      rw [hp, son_nil, show (0 : Int) = ((0 : Nat) : Int) from rfl, this]
      simp
    · rw [if_neg g, if_neg g]
      simp

end Go.Proofs.Yteikimciamlfbaa.Pure
